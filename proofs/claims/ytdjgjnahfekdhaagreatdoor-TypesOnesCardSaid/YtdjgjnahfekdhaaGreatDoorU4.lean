/- Contracts over the evaluator: walks through trees, variables, sorts. Conditions: none beyond the hypotheses of each theorem. -/
import Derived.Test.YtdjgjnahfekdhaaGreatDoorU3
import Derived.Test.YtdjgjnahfekdhaaGreatDoorU2
import Derived.Test.YtdjgjnahfekdhaaGreatDoorT5
import Derived.Test.YtdjgjnahfekdhaaGreatDoorT3
set_option linter.unusedSectionVars false
set_option linter.unusedVariables false
set_option linter.unusedSimpArgs false
namespace Go.Av
open Go.Proofs
set_option maxRecDepth 100000
abbrev intK : Int → V := V.int .i64
mutual
def T.Rng : T → Prop
  | .mk k n f l => (-9223372036854775808 ≤ n ∧ n ≤ 9223372036854775807) ∧ rngL l
def rngL : List T → Prop
  | [] => True
  | t :: l => T.Rng t ∧ rngL l
end
theorem rngL_at : ∀ {l : List T} {x : T}, rngL l → x ∈ l → x.Rng
  | t :: l, x, h, hx => by
    rw [rngL] at h
    rcases List.mem_cons.1 hx with rfl | hx
    · exact h.1
    · exact rngL_at h.2 hx
theorem memB_contains (x : Int) (l : List Int) : memB x l = l.contains x := by
  unfold memB
  cases h : l.contains x
  · simp at h; simpa using h
  · simp at h; simpa using h
theorem run_mapput {f : FuncId} {ops : Array Oper} {o : Oper} {l : List Oper} {tm : List V} {H : Heap} {d : List Nat} {Q : List V → Heap → List Nat → Prop} {α : Type} {k : α → V} {id : Nat} {a : α} {w : V} {L : List (α × V)}
    (hw : Region.wanted o (yld ops tm) = true) (h : stepOp f o tm H = some ⟨.junk, false, H.set id (.map (mapE k (L ++ [(a, w)]))), .loc id⟩) (hH : H[id]? = some (.map (mapE k L))) {tm1 : List V} (hp : putTm tm o.dst .junk = tm1)
    (hn : ∀ H', H'.length = H.length → H'[id]? = some (.map (mapE k (L ++ [(a, w)]))) → (∀ j, j ≠ id → H'[j]? = H[j]?) → Steps f ops l tm1 H' (id :: d) Q) : Steps f ops (o :: l) tm H d Q :=
  run_cons hw h (by
    rw [hp]
    exact hn _ (by simp) (by have := get_lt hH; simp [this]) fun j hj => List.getElem?_set_ne (Ne.symm hj))
structure VSt (H : Heap) (j1 j2 id : Nat) (out : List Int) (v : V) : Prop where
  hm : H[j1]? = some (.box [.mp id])
  ho : H[j2]? = some (.box [v])
  ne : j1 ≠ j2
  rep : Rep intV 1 H 0 out v
  map : H[id]? = some (.map (mapE intK (setE out)))
  nd : out.Nodup
  rg : ∀ x, x ∈ out → -9223372036854775808 ≤ x ∧ x ≤ 9223372036854775807
theorem VSt.mono {H H' : Heap} {j1 j2 id : Nat} {out : List Int} {v : V} (h : VSt H j1 j2 id out v) (hs : ∀ j, j < H.length → H'[j]? = H[j]?) : VSt H' j1 j2 id out v :=
  ⟨by rw [hs _ (get_lt h.hm)]; exact h.hm, by rw [hs _ (get_lt h.ho)]; exact h.ho, h.ne, h.rep.heap fun j hj => hs j (h.rep.lt hj).1, by rw [hs _ (get_lt h.map)]; exact h.map, h.nd, h.rg⟩
theorem VSt.id1 {H : Heap} {j1 j2 id : Nat} {out : List Int} {v : V} (h : VSt H j1 j2 id out v) : id ≠ j1 := fun e => by have := h.map; rw [e, h.hm] at this; cases this
theorem VSt.id2 {H : Heap} {j1 j2 id : Nat} {out : List Int} {v : V} (h : VSt H j1 j2 id out v) : id ≠ j2 := fun e => by have := h.map; rw [e, h.ho] at this; cases this
theorem VSt.nid {H : Heap} {j1 j2 id : Nat} {out : List Int} {v : V} (h : VSt H j1 j2 id out v) : num v ≠ some id := fun e => by
  obtain ⟨_, _, _, _, hk⟩ := h.rep.kind e
  rw [h.map] at hk; cases hk
structure Walked (H : Heap) (j1 j2 id : Nat) (out out' : List Int) (v : V) (r : CR) : Prop where
  pan : r.pan = false
  val : r.v = .tup []
  st : ∃ v', VSt r.H j1 j2 id out' v' ∧ (num v' = num v ∨ ∃ m, num v' = some m ∧ H.length ≤ m)
  len : H.length ≤ r.H.length
  same : ∀ i, i < H.length → i ≠ j2 → i ≠ id → num v ≠ some i → r.H[i]? = H[i]?
  or : (out' = out ∧ ∀ i, i ∈ r.d → H.length ≤ i) ∨ id ∈ r.d
theorem walked_call {H : Heap} {g : FuncId} {args : List V} {j1 j2 id : Nat} {out out' : List Int} {v : V} {r : CR} (h : E g args H = some r) (hr : Walked H j1 j2 id out out' v r) (h0 : VSt H j1 j2 id out v) (hg : g ≠ 102) (hk : cfg.keep g = false) (hs : args.mapM (strip H 0 true sf) = none) :
    ∃ H' k v', callF cfg E g args H = some ⟨.tup [], false, H', k⟩ ∧ VSt H' j1 j2 id out' v' ∧ (num v' = num v ∨ ∃ m, num v' = some m ∧ H.length ≤ m) ∧ H.length ≤ H'.length ∧ (∀ i, i < H.length → i ≠ j2 → i ≠ id → num v ≠ some i → H'[i]? = H[i]?) ∧ ((out' = out ∧ k.dirty = []) ∨ id ∈ k.dirty) := by
  by_cases hid : id ∈ r.d
  · obtain ⟨v', h1, h2⟩ := hr.st
    have hm : id ∈ r.d.filter (· < H.length) := by simp [hid, get_lt h0.map]
    refine ⟨r.H, .eff (r.d.filter (· < H.length)), v', ?_, h1, h2, hr.len, hr.same, .inr hm⟩
    unfold callF
    rw [if_neg (show g ≠ cfg.guard from hg), if_neg (by rw [hk]; simp)]
    simp only [hs, h, Option.bind_some]
    split
    · rename_i e; rw [e] at hm; cases hm
    · rw [hr.val, hr.pan]
  · rcases hr.or with ⟨ho, hd⟩ | ho
    · refine ⟨H, .pcall, v, ?_, by rw [ho]; exact h0, .inl rfl, Nat.le_refl _, fun _ _ _ _ _ => rfl, .inl ⟨ho, rfl⟩⟩
      exact FnH.call ⟨r, h, hr.pan, hd, by rw [hr.val]; rfl⟩ hg hk hs
    · exact absurd ho hid
def vars1 : T → List Int → List Int
  | .mk k n _ _, out => if k = 1 then (if out.contains n then out else out ++ [n]) else out
theorem vars1_len (t : T) (out : List Int) : (vars1 t out).length ≤ out.length + 1 := by
  obtain ⟨k, n, f, l⟩ := t
  rw [vars1]
  split
  · split <;> simp
  · omega
theorem varsT_1 {k n : Int} {f : Bool} {l : List T} (h : k = 1 → l = []) (out : List Int) : varsT (.mk k n f l) out = varsL l (vars1 (.mk k n f l) out) := by
  rw [varsT, vars1]
  split
  · rename_i h1
    rw [h h1, varsL]
  · rfl
theorem F268 : cfg.F 268 = some Tryz.f268 := rfl
set_option maxHeartbeats 8000000 in
theorem vars1_ent (t : T) (hrng : t.Rng) (H : Heap) (j1 j2 id : Nat) (out : List Int) (v : V) (h0 : VSt H j1 j2 id out v) (hroom : out.length ≤ 100000) :
    ∃ r, E 268 [.agg (tV t), .bp j1 0, .bp j2 0] H = some r ∧ Walked H j1 j2 id out (vars1 t out) v r := by
  obtain ⟨k, n, f, l⟩ := t
  rw [T.Rng] at hrng
  rw [tV_mk, vars1]
  refine enter_wp (P := fun r => Walked H j1 j2 id out _ v r) F268 rfl ?_
  simp only [show Tryz.f268.ntmps = 22 from rfl, List.length_cons, List.length_nil, List.replicate, List.cons_append, List.nil_append]
  refine wp_seq ?_
  refine wp_region ?_
  refine run_new rfl rfl (fun m => (by dsimp only [putTm, List.set])) ?_
  intro m H1 hm hl1 hb hold
  have h1 : VSt H1 j1 j2 id out v := h0.mono fun j hj => hold j (by omega)
  have hid1 := h1.id1
  have hid2 := h1.id2
  have hnid := h1.nid
  have hj1 := h1.hm
  have hj2 := h1.ho
  have g1 := get_lt h0.hm
  have g2 := get_lt h0.ho
  have g3 := get_lt h0.map
  repeat (first | refine zL hb ?_ | refine zM hb ?_ | refine zO hb ?_ | refine zL hj1 ?_ | refine zM hj1 ?_ | refine zO hj1 ?_ | refine zE ?_ | refine zP ?_ | refine zD ?_ | refine zQ ?_ | refine zR ?_ | refine zS ?_ | refine wN ?_ | refine wM ?_ | refine wR ?_ | refine wS ?_ | refine wB ?_ | refine wG ?_ | refine wD ?_ | refine wY ?_ | refine wZ ?_ | refine wK ?_ | refine wT ?_ | refine wX ?_)
  cases hk : (k == 1)
  case false =>
    rw [if_neg (by simpa using hk)]
    repeat (first | refine zL hb ?_ | refine zM hb ?_ | refine zO hb ?_ | refine zL hj1 ?_ | refine zM hj1 ?_ | refine zO hj1 ?_ | refine zE ?_ | refine zP ?_ | refine zD ?_ | refine zQ ?_ | refine zR ?_ | refine zS ?_ | refine wN ?_ | refine wM ?_ | refine wR ?_ | refine wS ?_ | refine wB ?_ | refine wG ?_ | refine wD ?_ | refine wY ?_ | refine wZ ?_ | refine wK ?_ | refine wT ?_ | refine wX ?_)
    exact ⟨.inl rfl, _, rfl, rfl, rfl, ⟨v, h1, .inl rfl⟩, by dsimp only; omega, fun i hi _ _ _ => hold i (by omega), .inl ⟨rfl, fun i hi => by (first | cases hi | (simp at hi; omega) | simp at hi)⟩⟩
  rw [if_pos (by simpa using hk)]
  have hL : ∀ b, b ∈ (setE out).map Prod.fst → cfg.keyed 3 (intK b) = true := fun b hb => by
    rw [setE_fst] at hb
    exact intK_keyed (h1.rg b hb).1 (h1.rg b hb).2
  repeat (first | refine zL hb ?_ | refine zM hb ?_ | refine zO hb ?_ | refine zL hj1 ?_ | refine zM hj1 ?_ | refine zO hj1 ?_ | refine zE ?_ | refine zP ?_ | refine zD ?_ | refine zQ ?_ | refine zR ?_ | refine zS ?_ | refine wN ?_ | refine wM ?_ | refine wR ?_ | refine wS ?_ | refine wB ?_ | refine wG ?_ | refine wD ?_ | refine wY ?_ | refine wZ ?_ | refine wK ?_ | refine wT ?_ | refine wX ?_)
  refine zF (step_lookup (k := intK) (a := n) rfl rfl rfl rfl rfl rfl rfl rfl intK_eq (intK_keyed hrng.1.1 hrng.1.2) hL h1.map (by rw [setE_fst]; exact h1.nd)) ?_
  rw [setE_lookup, memB_contains]
  repeat (first | refine zE ?_ | refine zP ?_ | refine zD ?_ | refine zQ ?_ | refine zR ?_ | refine zS ?_ | refine wN ?_ | refine wM ?_ | refine wR ?_ | refine wS ?_ | refine wB ?_ | refine wG ?_ | refine wD ?_ | refine wY ?_ | refine wZ ?_ | refine wK ?_ | refine wT ?_ | refine wX ?_)
  cases hc : out.contains n
  case true =>
    rw [if_pos rfl]
    repeat (first | refine zL hb ?_ | refine zM hb ?_ | refine zO hb ?_ | refine zL hj1 ?_ | refine zM hj1 ?_ | refine zO hj1 ?_ | refine zE ?_ | refine zP ?_ | refine zD ?_ | refine zQ ?_ | refine zR ?_ | refine zS ?_ | refine wN ?_ | refine wM ?_ | refine wR ?_ | refine wS ?_ | refine wB ?_ | refine wG ?_ | refine wD ?_ | refine wY ?_ | refine wZ ?_ | refine wK ?_ | refine wT ?_ | refine wX ?_)
    exact ⟨.inl rfl, _, rfl, rfl, rfl, ⟨v, h1, .inl rfl⟩, by dsimp only; omega, fun i hi _ _ _ => hold i (by omega), .inl ⟨rfl, fun i hi => by (first | cases hi | (simp at hi; omega) | simp at hi)⟩⟩
  rw [if_neg (by simp)]
  have hnot : n ∉ out := fun e => by rw [← memB_contains] at hc; exact memB_no hc e
  repeat (first | refine zL hb ?_ | refine zM hb ?_ | refine zO hb ?_ | refine zL hj1 ?_ | refine zM hj1 ?_ | refine zO hj1 ?_ | refine zE ?_ | refine zP ?_ | refine zD ?_ | refine zQ ?_ | refine zR ?_ | refine zS ?_ | refine wN ?_ | refine wM ?_ | refine wR ?_ | refine wS ?_ | refine wB ?_ | refine wG ?_ | refine wD ?_ | refine wY ?_ | refine wZ ?_ | refine wK ?_ | refine wT ?_ | refine wX ?_)
  refine run_mapput rfl (step_mapput (k := intK) (a := n) rfl rfl rfl rfl rfl rfl intK_eq (intK_keyed hrng.1.1 hrng.1.2) hL h1.map (by rw [setE_fst]; exact hnot)) h1.map (by dsimp only [putTm, List.set]) ?_
  rw [setE_snoc]
  intro H2 hl2 hmap2 hold2
  have hb2 : H2[m]? = some (.box [.int .i64 k, .int .i64 n, .sl l.length f (rows tV l)]) := by rw [hold2 m (by omega)]; exact hb
  have hj22 : H2[j2]? = some (.box [v]) := by rw [hold2 j2 (by omega)]; exact hj2
  have hrep2 : Rep intV 1 H2 0 out v := h1.rep.heap fun j hj => hold2 j (fun e => by subst e; exact hnid hj)
  repeat (first | refine zL hb2 ?_ | refine zM hb2 ?_ | refine zO hb2 ?_ | refine zL hj22 ?_ | refine zM hj22 ?_ | refine zO hj22 ?_ | refine zE ?_ | refine zP ?_ | refine zD ?_ | refine zQ ?_ | refine zR ?_ | refine zS ?_ | refine wN ?_ | refine wM ?_ | refine wR ?_ | refine wS ?_ | refine wB ?_ | refine wG ?_ | refine wD ?_ | refine wY ?_ | refine wZ ?_ | refine wK ?_ | refine wT ?_ | refine wX ?_)
  obtain ⟨D, v', H3, c, hD, hr, ha⟩ := append_rep (fid := 268) (dst := 21) (tt := 27) intV_len (by decide) intV_one rfl rfl rfl rfl (by decide) rfl hrep2 [n] (by simp) (by simp; omega) (Nat.zero_le _) true 1 rfl
  refine zF (step_append rfl rfl rfl rfl hD (hr _ rfl)) ?_
  have hap2 : num v ≠ some j2 := hrep2.apart hj22
  have hj23 : H3[j2]? = some (.box [v]) := by rw [ha.same j2 (get_lt hj22) hap2]; exact hj22
  refine run_store (v := v') rfl rfl rfl rfl rfl ha.rep.solid (by rw [ha.rep.cells]; rfl) hj23 (cs' := [v']) (by rw [ha.rep.cells]; rfl) (by dsimp only [putTm, List.set]) ?_
  intro H4 hl4 hj24 hold4
  repeat (first | refine zE ?_ | refine zP ?_ | refine zD ?_ | refine zQ ?_ | refine zR ?_ | refine zS ?_ | refine wN ?_ | refine wM ?_ | refine wR ?_ | refine wS ?_ | refine wB ?_ | refine wG ?_ | refine wD ?_ | refine wY ?_ | refine wZ ?_ | refine wK ?_ | refine wT ?_ | refine wX ?_)
  have hap3 : num v' ≠ some j2 := ha.rep.apart hj23
  have hj12 : H2[j1]? = some (.box [.mp id]) := by rw [hold2 j1 (Ne.symm hid1)]; exact hj1
  have hap1 : num v ≠ some j1 := hrep2.apart hj12
  have hl3 := ha.len
  refine ⟨.inl rfl, _, rfl, rfl, rfl, ⟨v', ⟨?_, hj24, h1.ne, ha.rep.heap fun j hj => hold4 j (fun e => by subst e; exact hap3 hj), ?_, ?_, ?_⟩, ?_⟩, by dsimp only; omega, ?_, .inr ?_⟩
  · rw [hold4 j1 h1.ne, ha.same j1 (by omega) hap1]; exact hj12
  · rw [hold4 id hid2, ha.same id (by omega) hnid]; exact hmap2
  · rw [List.nodup_append]
    exact ⟨h1.nd, by simp, fun y hy b hb e => by simp at hb; subst hb; subst e; exact hnot hy⟩
  · intro x hx
    rcases List.mem_append.1 hx with hx | hx
    · exact h1.rg x hx
    · simp at hx; subst hx; exact hrng.1
  · rcases ha.nums with h | ⟨q, h, hq⟩
    · exact .inl h
    · exact .inr ⟨q, h, by omega⟩
  · intro i hi h2 h3 h4
    dsimp only
    rw [hold4 i h2, ha.same i (by omega) h4, hold2 i h3, hold i (by omega)]
  · simp
theorem F267 : cfg.F 267 = some Tryz.f267 := rfl
set_option maxHeartbeats 8000000 in
theorem walk_ent : ∀ (t : T), t.Fit → t.Rng → nodeT t = true → ∀ (H0 : Heap) (j1 j2 id : Nat) (out : List Int) (v : V), VSt H0 j1 j2 id out v → out.length + nT t ≤ 100000 →
    ∃ r, E 267 [.agg (tV t), .fn 268 [.bp j1 0, .bp j2 0]] H0 = some r ∧ Walked H0 j1 j2 id out (varsT t out) v r := by
  refine T_ind ?_
  intro k n f l ih hfit hrng hnode H0 j1 j2 id out v h0 hroom
  obtain ⟨hn0, hk, hk1, hl8, hch⟩ := nodeT_mk hnode
  rw [T.Fit] at hfit
  rw [nT] at hroom
  have g1 := get_lt h0.hm
  have g2 := get_lt h0.ho
  have g3 := get_lt h0.map
  have hob : Obj [.bp j1 0, .bp j2 0] := ⟨.bp j1 0, by simp, .inl ⟨_, _, rfl⟩⟩
  rw [varsT_1 hk1]
  have hv1 := vars1_len (.mk k n f l) out
  refine enter_wp (P := fun r => Walked H0 j1 j2 id out _ v r) F267 rfl ?_
  rw [tV_mk]
  simp only [show Tryz.f267.ntmps = 20 from rfl, List.length_cons, List.length_nil, List.replicate, List.cons_append, List.nil_append]
  refine wp_seq ?_
  refine wp_region ?_
  refine run_new rfl rfl (fun m => (by dsimp only [putTm, List.set])) ?_
  intro m H1 hm hl1 hb hold
  have h1 : VSt H1 j1 j2 id out v := h0.mono fun j hj => hold j (by omega)
  repeat (first | refine zE ?_ | refine zP ?_ | refine zD ?_ | refine zQ ?_ | refine zR ?_ | refine zS ?_ | refine wN ?_ | refine wM ?_ | refine wR ?_ | refine wS ?_ | refine wB ?_ | refine wG ?_ | refine wD ?_ | refine wY ?_ | refine wZ ?_ | refine wK ?_ | refine wT ?_ | refine wX ?_)
  repeat (first | refine zL hb ?_ | refine zM hb ?_ | refine zO hb ?_ | refine zE ?_ | refine zP ?_ | refine zD ?_ | refine zQ ?_ | refine zR ?_ | refine zS ?_ | refine wN ?_ | refine wM ?_ | refine wR ?_ | refine wS ?_ | refine wB ?_ | refine wG ?_ | refine wD ?_ | refine wY ?_ | refine wZ ?_ | refine wK ?_ | refine wT ?_ | refine wX ?_)
  obtain ⟨r, he, hwr⟩ := vars1_ent (.mk k n f l) hrng H1 j1 j2 id out v h1 (by omega)
  obtain ⟨H2, kc, v2, hcall, h2, hnum2, hlen2, hsame2, hor2⟩ := walked_call he hwr h1 (by decide) rfl (mapM_none (x := .bp j1 0) (by simp) rfl)
  rw [tV_mk] at hcall
  refine zF (step_call (ev_callv rfl rfl rfl rfl rfl rfl) rfl hcall) ?_
  have hap : num v ≠ some m := h1.rep.apart hb
  have hb2 : H2[m]? = some (.box [.int .i64 k, .int .i64 n, .sl l.length f (rows tV l)]) := by
    rw [hsame2 m (by omega) (by omega) (by omega) hap]; exact hb
  repeat (first | refine zL hb2 ?_ | refine zM hb2 ?_ | refine zO hb2 ?_ | refine zE ?_ | refine zP ?_ | refine zD ?_ | refine zQ ?_ | refine zR ?_ | refine zS ?_ | refine wN ?_ | refine wM ?_ | refine wR ?_ | refine wS ?_ | refine wB ?_ | refine wG ?_ | refine wD ?_ | refine wY ?_ | refine wZ ?_ | refine wK ?_ | refine wT ?_ | refine wX ?_)
  refine wp_loop3 7 (fun a : Nat × V => [.agg [.int .i64 k, .int .i64 n, .sl l.length f (rows tV l)], .fn 268 [.bp j1 0, .bp j2 0], .bp m 0, .junk, .junk, a.2, .fn 268 [.bp j1 0, .bp j2 0], .agg [.int .i64 k, .int .i64 n, .sl l.length f (rows tV l)], .tup [], .bp m 2, .sl l.length f (rows tV l), .int .i64 (l.length : Int), .int .i64 (a.1 : Int)])
    (fun a H d => a.1 ≤ l.length ∧ ∃ o w, VSt H j1 j2 id o w ∧ (num w = num v ∨ ∃ q, num w = some q ∧ H0.length ≤ q) ∧ H0.length ≤ H.length ∧ (∀ i, i < H0.length → i ≠ j2 → i ≠ id → num v ≠ some i → H[i]? = H0[i]?) ∧ ((o = out ∧ ∀ i, i ∈ d → H0.length ≤ i) ∨ id ∈ d) ∧ varsL (l.drop a.1) o = varsL l (vars1 (.mk k n f l) out) ∧ o.length + nsT (l.drop a.1) ≤ 100000)
    (fun a => l.length - a.1) (0, .junk) ⟨_, rfl, rfl, Nat.zero_le _, _, v2, h2, ?_, by omega, ?_, ?_, rfl, by simp only [List.drop_zero]; omega⟩ ?_
  · rcases hnum2 with h | ⟨q, h, hq⟩
    · exact .inl h
    · exact .inr ⟨q, h, by omega⟩
  · intro i hi a b c
    rw [hsame2 i (by omega) a b c, hold i (by omega)]
  · rcases hor2 with ⟨h, hk⟩ | h
    · refine .inl ⟨h, fun i hi => ?_⟩
      rw [hk] at hi
      (first | cases hi | (simp at hi; omega) | simp at hi)
    · exact .inr (by simp [h])
  clear hb hb2 hold h1 he hwr hcall h2 hnum2 hlen2 hsame2 hor2 hap
  rintro ⟨i, v5⟩ H d u ⟨hi, o, w, hst, hnum, hlen, hsame, hor, hc, hroom2⟩
  dsimp only at hi hc hroom2 ⊢
  (rw [show (List.range 7).map u = [u 0, u 1, u 2, u 3, u 4, u 5, u 6] from rfl]; simp only [List.cons_append, List.nil_append])
  repeat (first | refine zE ?_ | refine zP ?_ | refine zD ?_ | refine zQ ?_ | refine zR ?_ | refine zS ?_ | refine wN ?_ | refine wM ?_ | refine wR ?_ | refine wS ?_ | refine wB ?_ | refine wG ?_ | refine wD ?_ | refine wY ?_ | refine wZ ?_ | refine wK ?_ | refine wT ?_ | refine wX ?_)
  by_cases hlt : i < l.length
  · refine wp_yes rfl (decide_eq_true (by omega)) ?_
    obtain ⟨x, hx⟩ := get_of hlt
    have hmem := List.mem_of_getElem? hx
    rw [drop_of hx, varsL] at hc
    rw [drop_of hx, nsT] at hroom2
    repeat (first | refine zE ?_ | refine zP ?_ | refine zD ?_ | refine zQ ?_ | refine zR ?_ | refine zS ?_ | refine wN ?_ | refine wM ?_ | refine wR ?_ | refine wS ?_ | refine wB ?_ | refine wG ?_ | refine wD ?_ | refine wY ?_ | refine wZ ?_ | refine wK ?_ | refine wT ?_ | refine wX ?_)
    refine zF (step_idx rfl rfl rfl rfl rfl rfl ⟨by omega, by omega⟩ (drop_rows (k := 3) tV_len hx)) ?_
    refine zF (step_enc rfl rfl rfl (tV_len _) rfl) ?_
    refine run_new rfl rfl (fun m => (by dsimp only [putTm, List.set])) ?_
    intro m2 H4 hm2 hl4 hb4 hold4
    refine run_store (v := .agg (tV x)) rfl rfl rfl rfl rfl (tV_one x) (tV_len x) hb4 (cs' := tV x) (by show splice [.int .i64 0, .int .i64 0, .sl 0 true []] 0 (tV x) = _; simp [splice, tV_len]) (by dsimp only [putTm, List.set]) ?_
    intro H5 hl5 hb5 ho5
    have hs5 : VSt H5 j1 j2 id o w := hst.mono fun j hj => by rw [ho5 j (by omega), hold4 j (by omega)]
    repeat (first | refine zE ?_ | refine zP ?_ | refine zD ?_ | refine zQ ?_ | refine zR ?_ | refine zS ?_ | refine wN ?_ | refine wM ?_ | refine wR ?_ | refine wS ?_ | refine wB ?_ | refine wG ?_ | refine wD ?_ | refine wY ?_ | refine wZ ?_ | refine wK ?_ | refine wT ?_ | refine wX ?_)
    refine zF (step_load (v := .agg (tV x)) rfl rfl rfl hb5 (by show part ti62 (tV x) 0 = _; simp [part, ti62, tV_len]; rw [← tV_len x, List.take_length])) ?_
    repeat (first | refine zE ?_ | refine zP ?_ | refine zD ?_ | refine zQ ?_ | refine zR ?_ | refine zS ?_ | refine wN ?_ | refine wM ?_ | refine wR ?_ | refine wS ?_ | refine wB ?_ | refine wG ?_ | refine wD ?_ | refine wY ?_ | refine wZ ?_ | refine wK ?_ | refine wT ?_ | refine wX ?_)
    obtain ⟨r, he, hwr⟩ := ih x hmem (hfit.2.at hmem) (rngL_at (by rw [T.Rng] at hrng; exact hrng.2) hmem) (hch x hmem) H5 j1 j2 id o w hs5 (by omega)
    obtain ⟨H6, kc, v6, hcall, h6, hnum6, hlen6, hsame6, hor6⟩ := walked_call he hwr hs5 (by decide) rfl (hob.strip (p := 268) (by simp))
    refine zF (step_call rfl rfl hcall) ?_
    repeat (first | refine zE ?_ | refine zP ?_ | refine zD ?_ | refine zQ ?_ | refine zR ?_ | refine zS ?_ | refine wN ?_ | refine wM ?_ | refine wR ?_ | refine wS ?_ | refine wB ?_ | refine wG ?_ | refine wD ?_ | refine wY ?_ | refine wZ ?_ | refine wK ?_ | refine wT ?_ | refine wX ?_)
    rw [wrap_succ (by omega)]
    have hvl := varsT_len x o
    refine ⟨(i + 1, .bp m2 0), _, rfl, rfl, ⟨hlt, _, v6, h6, ?_, by omega, ?_, ?_, hc, (by first | omega | (dsimp only; omega))⟩, (by first | omega | (dsimp only; omega))⟩
    · rcases hnum6 with h | ⟨q, h, hq⟩
      · rw [h]; exact hnum
      · exact .inr ⟨q, h, by omega⟩
    · intro i hi a b c
      rw [hsame6 i (by omega) a b ?_, ho5 i (by omega), hold4 i (by omega)]
      · exact hsame i hi a b c
      · rcases hnum with h | ⟨q, h, hq⟩
        · rw [h]; exact c
        · rw [h]; intro e; cases e; omega
    · rcases hor6 with ⟨h, hk⟩ | h
      · rcases hor with ⟨h7, hd⟩ | h7
        · refine .inl ⟨by rw [h, h7], fun i hi => ?_⟩
          rw [hk] at hi
          simp [Cls.dirty] at hi
          rcases hi with rfl | hi
          · omega
          · exact hd i hi
        · exact .inr (by simp [h7])
      · exact .inr (by simp [h])
  · refine wp_no rfl (decide_eq_false (by omega)) ?_
    have hil : i = l.length := by omega
    subst hil
    rw [List.drop_length, varsL] at hc
    rw [← hc]
    repeat (first | refine zE ?_ | refine zP ?_ | refine zD ?_ | refine zQ ?_ | refine zR ?_ | refine zS ?_ | refine wN ?_ | refine wM ?_ | refine wR ?_ | refine wS ?_ | refine wB ?_ | refine wG ?_ | refine wD ?_ | refine wY ?_ | refine wZ ?_ | refine wK ?_ | refine wT ?_ | refine wX ?_)
    exact ⟨.inl rfl, _, rfl, rfl, rfl, ⟨w, hst, hnum⟩, hlen, hsame, hor⟩
end Go.Av
namespace Go.Av
open Go.Proofs
set_option maxRecDepth 100000
section
variable {f : FuncId} {c : Code} {tm : List V} {H : Heap} {d : List Nat} {R : Ex → List V → Heap → List Nat → Prop}
theorem wp_loop4 {α : Type} (n m : Nat) (upd : α → List V → List V) (J : α → Heap → List Nat → Prop) (μ : α → Nat) (a0 : α) (h0 : tm = upd a0 (tm.take n) ++ tm.drop n) (hm : (tm.drop n).length = m) (hJ : J a0 H d)
    (hr : ∀ a H d (u : Nat → V), J a H d → Wp f c (upd a (tm.take n) ++ (List.range m).map u) H d fun e tm' H' d' => match e with | .normal => ∃ a' tail, tm' = upd a' (tm.take n) ++ tail ∧ tail.length = m ∧ J a' H' d' ∧ μ a' < μ a | e => R e tm' H' d') : Wp f (.loop c) tm H d R :=
  wp_loop3 m (fun a => upd a (tm.take n)) J μ a0 ⟨tm.drop n, h0, hm, hJ⟩ hr
end
theorem F238 : cfg.F 238 = some Tryz.f238 := rfl
set_option maxHeartbeats 8000000 in
theorem varsP_fn (l : List T) (f : Bool) (hl : l.length ≤ 9223372036854775807) (hf : ∀ x, x ∈ l → x.Fit) (hg : ∀ x, x ∈ l → x.Rng) (hn : ∀ x, x ∈ l → nodeT x = true) (hs : nsT l ≤ 100000) : Fn 238 [.sl l.length f (rows tV l)] (slOf intV (varsL l [])) := by
  have hob : Obj [.bp 2 0, .bp 0 0] := ⟨.bp 2 0, by simp, .inl ⟨_, _, rfl⟩⟩
  refine Fn.of_wp F238 rfl ?_
  simp only [show Tryz.f238.ntmps = 19 from rfl, List.length_cons, List.length_nil, List.replicate, List.cons_append, List.nil_append]
  repeat (first | refine zE ?_ | refine zP ?_ | refine zD ?_ | refine zQ ?_ | refine zR ?_ | refine zS ?_ | refine wN ?_ | refine wM ?_ | refine wR ?_ | refine wS ?_ | refine wB ?_ | refine wG ?_ | refine wD ?_ | refine wY ?_ | refine wZ ?_ | refine wK ?_ | refine wT ?_ | refine wX ?_)
  refine wp_loop3 8 (fun a : Nat × V => [.sl l.length f (rows tV l), .junk, .sl 0 true [], .bp 0 0, .bp 2 0, .junk, a.2, .mp 1, .sl l.length f (rows tV l), .int .i64 (l.length : Int), .int .i64 (a.1 : Int)])
    (fun a H d => a.1 ≤ l.length ∧ ∃ o w, VSt H 2 0 1 o w ∧ varsL (l.drop a.1) o = varsL l [] ∧ o.length + nsT (l.drop a.1) ≤ 100000)
    (fun a => l.length - a.1) (0, .junk) ⟨_, rfl, rfl, Nat.zero_le _, [], .sl 0 true [], ⟨rfl, rfl, by decide, Rep.nil, rfl, List.nodup_nil, fun x hx => by cases hx⟩, rfl, by simpa using hs⟩ ?_
  rintro ⟨i, v5⟩ H d u ⟨hi, o, w, hst, hc, hroom2⟩
  dsimp only at hi hc hroom2 ⊢
  (rw [show (List.range 8).map u = [u 0, u 1, u 2, u 3, u 4, u 5, u 6, u 7] from rfl]; simp only [List.cons_append, List.nil_append])
  repeat (first | refine zE ?_ | refine zP ?_ | refine zD ?_ | refine zQ ?_ | refine zR ?_ | refine zS ?_ | refine wN ?_ | refine wM ?_ | refine wR ?_ | refine wS ?_ | refine wB ?_ | refine wG ?_ | refine wD ?_ | refine wY ?_ | refine wZ ?_ | refine wK ?_ | refine wT ?_ | refine wX ?_)
  by_cases hlt : i < l.length
  · refine wp_yes rfl (decide_eq_true (by omega)) ?_
    obtain ⟨x, hx⟩ := get_of hlt
    have hmem := List.mem_of_getElem? hx
    rw [drop_of hx, varsL] at hc
    rw [drop_of hx, nsT] at hroom2
    repeat (first | refine zE ?_ | refine zP ?_ | refine zD ?_ | refine zQ ?_ | refine zR ?_ | refine zS ?_ | refine wN ?_ | refine wM ?_ | refine wR ?_ | refine wS ?_ | refine wB ?_ | refine wG ?_ | refine wD ?_ | refine wY ?_ | refine wZ ?_ | refine wK ?_ | refine wT ?_ | refine wX ?_)
    refine zF (step_idx rfl rfl rfl rfl rfl rfl ⟨by omega, by omega⟩ (drop_rows (k := 3) tV_len hx)) ?_
    refine zF (step_enc rfl rfl rfl (tV_len _) rfl) ?_
    refine run_new rfl rfl (fun m => (by dsimp only [putTm, List.set])) ?_
    intro m2 H4 hm2 hl4 hb4 hold4
    have g1 := get_lt hst.hm
    refine run_store (v := .agg (tV x)) rfl rfl rfl rfl rfl (tV_one x) (tV_len x) hb4 (cs' := tV x) (by show splice [.int .i64 0, .int .i64 0, .sl 0 true []] 0 (tV x) = _; simp [splice, tV_len]) (by dsimp only [putTm, List.set]) ?_
    intro H5 hl5 hb5 ho5
    have hs5 : VSt H5 2 0 1 o w := hst.mono fun j hj => by rw [ho5 j (by omega), hold4 j (by omega)]
    repeat (first | refine zE ?_ | refine zP ?_ | refine zD ?_ | refine zQ ?_ | refine zR ?_ | refine zS ?_ | refine wN ?_ | refine wM ?_ | refine wR ?_ | refine wS ?_ | refine wB ?_ | refine wG ?_ | refine wD ?_ | refine wY ?_ | refine wZ ?_ | refine wK ?_ | refine wT ?_ | refine wX ?_)
    refine zF (step_load (v := .agg (tV x)) rfl rfl rfl hb5 (by show part ti62 (tV x) 0 = _; simp [part, ti62, tV_len]; rw [← tV_len x, List.take_length])) ?_
    repeat (first | refine zE ?_ | refine zP ?_ | refine zD ?_ | refine zQ ?_ | refine zR ?_ | refine zS ?_ | refine wN ?_ | refine wM ?_ | refine wR ?_ | refine wS ?_ | refine wB ?_ | refine wG ?_ | refine wD ?_ | refine wY ?_ | refine wZ ?_ | refine wK ?_ | refine wT ?_ | refine wX ?_)
    obtain ⟨r, he, hwr⟩ := walk_ent x (hf x hmem) (hg x hmem) (hn x hmem) H5 2 0 1 o w hs5 (by omega)
    obtain ⟨H6, kc, v6, hcall, h6, hnum6, hlen6, hsame6, hor6⟩ := walked_call he hwr hs5 (by decide) rfl (hob.strip (p := 268) (by simp))
    refine zF (step_call rfl rfl hcall) ?_
    repeat (first | refine zE ?_ | refine zP ?_ | refine zD ?_ | refine zQ ?_ | refine zR ?_ | refine zS ?_ | refine wN ?_ | refine wM ?_ | refine wR ?_ | refine wS ?_ | refine wB ?_ | refine wG ?_ | refine wD ?_ | refine wY ?_ | refine wZ ?_ | refine wK ?_ | refine wT ?_ | refine wX ?_)
    rw [wrap_succ (by omega)]
    have hvl := varsT_len x o
    exact ⟨(i + 1, .bp m2 0), _, rfl, rfl, ⟨hlt, _, v6, h6, hc, (by first | omega | (dsimp only; omega))⟩, (by first | omega | (dsimp only; omega))⟩
  · refine wp_no rfl (decide_eq_false (by omega)) ?_
    have hil : i = l.length := by omega
    subst hil
    rw [List.drop_length, varsL] at hc
    rw [← hc]
    have ho := hst.ho
    repeat (first | refine zL ho ?_ | refine zM ho ?_ | refine zO ho ?_ | refine zE ?_ | refine zP ?_ | refine zD ?_ | refine zQ ?_ | refine zR ?_ | refine zS ?_ | refine wN ?_ | refine wM ?_ | refine wR ?_ | refine wS ?_ | refine wB ?_ | refine wG ?_ | refine wD ?_ | refine wY ?_ | refine wZ ?_ | refine wK ?_ | refine wT ?_ | refine wX ?_)
    exact ⟨.inr rfl, _, rfl, hst.rep.strips intV_len intV_flat⟩
theorem F187 : cfg.F 187 = some Tryz.f187 := rfl
theorem Vars_fn (l : List T) (f : Bool) (hl : l.length ≤ 40) (hf : ∀ x, x ∈ l → x.Fit) (hg : ∀ x, x ∈ l → x.Rng) : Fn 187 [.sl l.length f (rows tV l)] (slOf intV (varsA l)) := by
  unfold varsA
  refine Fn.of_wp F187 rfl ?_
  simp only [show Tryz.f187.ntmps = 8 from rfl, List.length_cons, List.length_nil, List.replicate, List.cons_append, List.nil_append]
  repeat (first | refine zE ?_ | refine zP ?_ | refine zD ?_ | refine zQ ?_ | refine zR ?_ | refine zS ?_ | refine wN ?_ | refine wM ?_ | refine wR ?_ | refine wS ?_ | refine wB ?_ | refine wG ?_ | refine wD ?_ | refine wY ?_ | refine wZ ?_ | refine wK ?_ | refine wT ?_ | refine wX ?_)
  refine zF (step_call rfl rfl ((trees_fn l f (by omega) hf).cl)) ?_
  cases h1 : l.all treeB
  · repeat (first | refine zE ?_ | refine zP ?_ | refine zD ?_ | refine zQ ?_ | refine zR ?_ | refine zS ?_ | refine wN ?_ | refine wM ?_ | refine wR ?_ | refine wS ?_ | refine wB ?_ | refine wG ?_ | refine wD ?_ | refine wY ?_ | refine wZ ?_ | refine wK ?_ | refine wT ?_ | refine wX ?_)
    exact ⟨.inr rfl, _, rfl, rfl⟩
  have h1' : ∀ x, x ∈ l → treeB x = true := List.all_eq_true.1 h1
  have := nsT_le l h1'
  repeat (first | refine zE ?_ | refine zP ?_ | refine zD ?_ | refine zQ ?_ | refine zR ?_ | refine zS ?_ | refine wN ?_ | refine wM ?_ | refine wR ?_ | refine wS ?_ | refine wB ?_ | refine wG ?_ | refine wD ?_ | refine wY ?_ | refine wZ ?_ | refine wK ?_ | refine wT ?_ | refine wX ?_)
  refine zF (step_call rfl rfl ((varsP_fn l f (by omega) hf hg (fun x hx => treeB_node (h1' x hx)) (by omega)).cl)) ?_
  rw [if_pos rfl]
  repeat (first | refine zE ?_ | refine zP ?_ | refine zD ?_ | refine zQ ?_ | refine zR ?_ | refine zS ?_ | refine wN ?_ | refine wM ?_ | refine wR ?_ | refine wS ?_ | refine wB ?_ | refine wG ?_ | refine wD ?_ | refine wY ?_ | refine wZ ?_ | refine wK ?_ | refine wT ?_ | refine wX ?_)
  exact ⟨.inr rfl, _, rfl, strip_flat (flat_slOf intV_flat _)⟩
theorem F186 : cfg.F 186 = some Tryz.f186 := rfl
set_option maxHeartbeats 8000000 in
theorem sortOfP_fn (s : S) (vars : List Int) (fv : Bool) (hs : s.Fit) (hv : vars.length ≤ 9223372036854775807) : ∀ (t : T), t.Fit → nodeT t = true → Fn 186 [.agg (sV s), .sl vars.length fv (ints vars), .agg (tV t)] (.tup [.int .i64 (srt s vars t).1, .bool (srt s vars t).2]) := by
  refine T_ind ?_
  intro k n f l ih hfit hnode
  rw [T.Fit] at hfit
  obtain ⟨hn0, hk, hk1, hl8, hch⟩ := nodeT_mk hnode
  obtain ⟨m, rfl⟩ : ∃ m : Nat, n = m := ⟨n.toNat, by omega⟩
  rw [tV_mk, srt]
  refine Fn.of_wp F186 rfl ?_
  simp only [show Tryz.f186.ntmps = 84 from rfl, List.length_cons, List.length_nil, List.replicate, List.cons_append, List.nil_append]
  repeat (first | refine zE ?_ | refine zP ?_ | refine zD ?_ | refine zQ ?_ | refine zR ?_ | refine zS ?_ | refine wN ?_ | refine wM ?_ | refine wR ?_ | refine wS ?_ | refine wB ?_ | refine wG ?_ | refine wD ?_ | refine wY ?_ | refine wZ ?_ | refine wK ?_ | refine wT ?_ | refine wX ?_)
  cases h1 : (k == 1)
  case true =>
    rw [if_pos (by simpa using h1)]
    repeat (first | refine zE ?_ | refine zP ?_ | refine zD ?_ | refine zQ ?_ | refine zR ?_ | refine zS ?_ | refine wN ?_ | refine wM ?_ | refine wR ?_ | refine wS ?_ | refine wB ?_ | refine wG ?_ | refine wD ?_ | refine wY ?_ | refine wZ ?_ | refine wK ?_ | refine wT ?_ | refine wX ?_)
    cases h2 : decide ((m : Int) ≥ (vars.length : Int))
    case true =>
      rw [if_pos (by simpa using h2)]
      repeat (first | refine zE ?_ | refine zP ?_ | refine zD ?_ | refine zQ ?_ | refine zR ?_ | refine zS ?_ | refine wN ?_ | refine wM ?_ | refine wR ?_ | refine wS ?_ | refine wB ?_ | refine wG ?_ | refine wD ?_ | refine wY ?_ | refine wZ ?_ | refine wK ?_ | refine wT ?_ | refine wX ?_)
      exact ⟨.inr rfl, _, rfl, rfl⟩
    have h2' := of_decide_eq_false h2
    rw [if_neg (by omega)]
    obtain ⟨x, hx⟩ := get_of (show m < vars.length by omega)
    have hget : vars.getD ((m : Int)).toNat 0 = x := by rw [Int.toNat_natCast, List.getD_eq_getElem?_getD, hx]; rfl
    rw [hget]
    repeat (first | refine zE ?_ | refine zP ?_ | refine zD ?_ | refine zQ ?_ | refine zR ?_ | refine zS ?_ | refine wN ?_ | refine wM ?_ | refine wR ?_ | refine wS ?_ | refine wB ?_ | refine wG ?_ | refine wD ?_ | refine wY ?_ | refine wZ ?_ | refine wK ?_ | refine wT ?_ | refine wX ?_)
    refine zF (step_idx rfl rfl rfl rfl rfl rfl ⟨by omega, by omega⟩ (drop_rows (k := 1) (fun _ => rfl) hx)) ?_
    repeat (first | refine zE ?_ | refine zP ?_ | refine zD ?_ | refine zQ ?_ | refine zR ?_ | refine zS ?_ | refine wN ?_ | refine wM ?_ | refine wR ?_ | refine wS ?_ | refine wB ?_ | refine wG ?_ | refine wD ?_ | refine wY ?_ | refine wZ ?_ | refine wK ?_ | refine wT ?_ | refine wX ?_)
    exact ⟨.inr rfl, _, rfl, rfl⟩
  have hk' : ¬ k = 1 := by simpa using h1
  rw [if_neg hk']
  repeat (first | refine zE ?_ | refine zP ?_ | refine zD ?_ | refine zQ ?_ | refine zR ?_ | refine zS ?_ | refine wN ?_ | refine wM ?_ | refine wR ?_ | refine wS ?_ | refine wB ?_ | refine wG ?_ | refine wD ?_ | refine wY ?_ | refine wZ ?_ | refine wK ?_ | refine wT ?_ | refine wX ?_)
  cases h3 : decide ((m : Int) ≥ (s.ops.length : Int))
  case true =>
    rw [if_pos (by simpa using h3)]
    repeat (first | refine zE ?_ | refine zP ?_ | refine zD ?_ | refine zQ ?_ | refine zR ?_ | refine zS ?_ | refine wN ?_ | refine wM ?_ | refine wR ?_ | refine wS ?_ | refine wB ?_ | refine wG ?_ | refine wD ?_ | refine wY ?_ | refine wZ ?_ | refine wK ?_ | refine wT ?_ | refine wX ?_)
    exact ⟨.inr rfl, _, rfl, rfl⟩
  have h3' := of_decide_eq_false h3
  rw [if_neg (by omega)]
  obtain ⟨o, ho⟩ := get_of (show m < s.ops.length by omega)
  have hof := hs.op m o ho
  rw [Int.toNat_natCast, ho]
  simp only
  repeat (first | refine zE ?_ | refine zP ?_ | refine zD ?_ | refine zQ ?_ | refine zR ?_ | refine zS ?_ | refine wN ?_ | refine wM ?_ | refine wR ?_ | refine wS ?_ | refine wB ?_ | refine wG ?_ | refine wD ?_ | refine wY ?_ | refine wZ ?_ | refine wK ?_ | refine wT ?_ | refine wX ?_)
  refine zG (step_idx rfl rfl rfl rfl rfl rfl ⟨by omega, by omega⟩ (drop_rows (k := 3) (fun _ => rfl) ho)) ?_
  repeat (first | refine zE ?_ | refine zP ?_ | refine zD ?_ | refine zQ ?_ | refine zR ?_ | refine zS ?_ | refine wN ?_ | refine wM ?_ | refine wR ?_ | refine wS ?_ | refine wB ?_ | refine wG ?_ | refine wD ?_ | refine wY ?_ | refine wZ ?_ | refine wK ?_ | refine wT ?_ | refine wX ?_)
  cases h4 : ((l.length : Int) != (o.args.length : Int))
  case true =>
    rw [if_neg (by simp at h4; omega)]
    repeat (first | refine zE ?_ | refine zP ?_ | refine zD ?_ | refine zQ ?_ | refine zR ?_ | refine zS ?_ | refine wN ?_ | refine wM ?_ | refine wR ?_ | refine wS ?_ | refine wB ?_ | refine wG ?_ | refine wD ?_ | refine wY ?_ | refine wZ ?_ | refine wK ?_ | refine wT ?_ | refine wX ?_)
    exact ⟨.inr rfl, _, rfl, rfl⟩
  have h4' : o.args.length = l.length := by simp at h4; omega
  rw [if_pos h4']
  repeat (first | refine zE ?_ | refine zP ?_ | refine zD ?_ | refine zQ ?_ | refine zR ?_ | refine zS ?_ | refine wN ?_ | refine wM ?_ | refine wR ?_ | refine wS ?_ | refine wB ?_ | refine wG ?_ | refine wD ?_ | refine wY ?_ | refine wZ ?_ | refine wK ?_ | refine wT ?_ | refine wX ?_)
  refine wp_loop4 49 35 (fun (a : Nat × V × V × V × V) l => ((((l.set 48 (.int .i64 (a.1 : Int))).set 8 a.2.1).set 9 a.2.2.1).set 10 a.2.2.2.1).set 11 a.2.2.2.2)
    (fun a H d => a.1 ≤ l.length ∧ H[0]? = some (.box (sV s)) ∧ H[1]? = some (.box [.int .i64 k, .int .i64 (m : Int), .sl l.length f (rows tV l)]) ∧ srtL s vars (l.drop a.1) (o.args.drop a.1) = srtL s vars l o.args) (fun a => l.length - a.1) (0, .junk, .junk, .junk, .junk) rfl rfl ⟨Nat.zero_le _, rfl, rfl, rfl⟩ ?_
  rintro ⟨i, v8, v9, v10, v11⟩ H d u ⟨hi, hb0, hb1, hc⟩
  dsimp only [List.take, List.set] at hi hc ⊢
  (rw [show (List.range 35).map u = [u 0, u 1, u 2, u 3, u 4, u 5, u 6, u 7, u 8, u 9, u 10, u 11, u 12, u 13, u 14, u 15, u 16, u 17, u 18, u 19, u 20, u 21, u 22, u 23, u 24, u 25, u 26, u 27, u 28, u 29, u 30, u 31, u 32, u 33, u 34] from rfl]; simp only [List.cons_append, List.nil_append])
  repeat (first | refine zE ?_ | refine zP ?_ | refine zD ?_ | refine zQ ?_ | refine zR ?_ | refine zS ?_ | refine wN ?_ | refine wM ?_ | refine wR ?_ | refine wS ?_ | refine wB ?_ | refine wG ?_ | refine wD ?_ | refine wY ?_ | refine wZ ?_ | refine wK ?_ | refine wT ?_ | refine wX ?_)
  by_cases hlt : i < l.length
  · refine wp_yes rfl (decide_eq_true (by omega)) ?_
    obtain ⟨x, hx⟩ := get_of hlt
    obtain ⟨a, ha⟩ := get_of (show i < o.args.length by omega)
    have hmem := List.mem_of_getElem? hx
    rw [drop_of hx, drop_of ha, srtL] at hc
    repeat (first | refine zE ?_ | refine zP ?_ | refine zD ?_ | refine zQ ?_ | refine zR ?_ | refine zS ?_ | refine wN ?_ | refine wM ?_ | refine wR ?_ | refine wS ?_ | refine wB ?_ | refine wG ?_ | refine wD ?_ | refine wY ?_ | refine wZ ?_ | refine wK ?_ | refine wT ?_ | refine wX ?_)
    refine zF (step_idx rfl rfl rfl rfl rfl rfl ⟨by omega, by omega⟩ (drop_rows (k := 3) tV_len hx)) ?_
    refine zF (step_enc rfl rfl rfl (tV_len _) rfl) ?_
    refine run_new rfl rfl (fun m => (by dsimp only [putTm, List.set])) ?_
    intro m9 H4 hm9 hl4 hb4 hold4
    have g0 := get_lt hb0
    have g1 := get_lt hb1
    repeat (first | refine zE ?_ | refine zP ?_ | refine zD ?_ | refine zQ ?_ | refine zR ?_ | refine zS ?_ | refine wN ?_ | refine wM ?_ | refine wR ?_ | refine wS ?_ | refine wB ?_ | refine wG ?_ | refine wD ?_ | refine wY ?_ | refine wZ ?_ | refine wK ?_ | refine wT ?_ | refine wX ?_)
    refine run_store (v := .agg (tV x)) rfl rfl rfl rfl rfl (tV_one x) (tV_len x) hb4 (cs' := tV x) (by show splice [.int .i64 0, .int .i64 0, .sl 0 true []] 0 (tV x) = _; simp [splice, tV_len]) (by dsimp only [putTm, List.set]) ?_
    intro H5 hl5 hb5 ho5
    have hb05 : H5[0]? = some (.box (sV s)) := by rw [ho5 0 (by omega), hold4 0 (by omega)]; exact hb0
    have hb15 : H5[1]? = some (.box [.int .i64 k, .int .i64 (m : Int), .sl l.length f (rows tV l)]) := by rw [ho5 1 (by omega), hold4 1 (by omega)]; exact hb1
    repeat (first | refine zL hb05 ?_ | refine zM hb05 ?_ | refine zO hb05 ?_ | refine zE ?_ | refine zP ?_ | refine zD ?_ | refine zQ ?_ | refine zR ?_ | refine zS ?_ | refine wN ?_ | refine wM ?_ | refine wR ?_ | refine wS ?_ | refine wB ?_ | refine wG ?_ | refine wD ?_ | refine wY ?_ | refine wZ ?_ | refine wK ?_ | refine wT ?_ | refine wX ?_)
    refine zF (step_load (v := .agg (tV x)) rfl rfl rfl hb5 (by show part ti62 (tV x) 0 = _; simp [part, ti62, tV_len]; rw [← tV_len x, List.take_length])) ?_
    refine zF (step_call rfl rfl ((ih x hmem (hfit.2.at hmem) (hch x hmem)).cl)) ?_
    repeat (first | refine zE ?_ | refine zP ?_ | refine zD ?_ | refine zQ ?_ | refine zR ?_ | refine zS ?_ | refine wN ?_ | refine wM ?_ | refine wR ?_ | refine wS ?_ | refine wB ?_ | refine wG ?_ | refine wD ?_ | refine wY ?_ | refine wZ ?_ | refine wK ?_ | refine wT ?_ | refine wX ?_)
    cases h5 : (srt s vars x).2
    · rw [h5, Bool.false_and] at hc
      rw [← hc]
      repeat (first | refine zE ?_ | refine zP ?_ | refine zD ?_ | refine zQ ?_ | refine zR ?_ | refine zS ?_ | refine wN ?_ | refine wM ?_ | refine wR ?_ | refine wS ?_ | refine wB ?_ | refine wG ?_ | refine wD ?_ | refine wY ?_ | refine wZ ?_ | refine wK ?_ | refine wT ?_ | refine wX ?_)
      exact ⟨.inr rfl, _, rfl, rfl⟩
    rw [h5, Bool.true_and] at hc
    repeat (first | refine zL hb05 ?_ | refine zM hb05 ?_ | refine zO hb05 ?_ | refine zL hb15 ?_ | refine zM hb15 ?_ | refine zO hb15 ?_ | refine zE ?_ | refine zP ?_ | refine zD ?_ | refine zQ ?_ | refine zR ?_ | refine zS ?_ | refine wN ?_ | refine wM ?_ | refine wR ?_ | refine wS ?_ | refine wB ?_ | refine wG ?_ | refine wD ?_ | refine wY ?_ | refine wZ ?_ | refine wK ?_ | refine wT ?_ | refine wX ?_)
    refine zF (step_idx rfl rfl rfl rfl rfl rfl ⟨by omega, by omega⟩ (drop_rows (k := 3) (fun _ => rfl) ho)) ?_
    repeat (first | refine zE ?_ | refine zP ?_ | refine zD ?_ | refine zQ ?_ | refine zR ?_ | refine zS ?_ | refine wN ?_ | refine wM ?_ | refine wR ?_ | refine wS ?_ | refine wB ?_ | refine wG ?_ | refine wD ?_ | refine wY ?_ | refine wZ ?_ | refine wK ?_ | refine wT ?_ | refine wX ?_)
    refine zF (step_idx rfl rfl rfl rfl rfl rfl ⟨by omega, by omega⟩ (drop_rows (k := 1) (fun _ => rfl) ha)) ?_
    repeat (first | refine zE ?_ | refine zP ?_ | refine zD ?_ | refine zQ ?_ | refine zR ?_ | refine zS ?_ | refine wN ?_ | refine wM ?_ | refine wR ?_ | refine wS ?_ | refine wB ?_ | refine wG ?_ | refine wD ?_ | refine wY ?_ | refine wZ ?_ | refine wK ?_ | refine wT ?_ | refine wX ?_)
    cases h6 : ((srt s vars x).1 != a)
    · have h6' : (srt s vars x).1 = a := by simpa using h6
      rw [decide_eq_true h6', Bool.true_and] at hc
      repeat (first | refine zE ?_ | refine zP ?_ | refine zD ?_ | refine zQ ?_ | refine zR ?_ | refine zS ?_ | refine wN ?_ | refine wM ?_ | refine wR ?_ | refine wS ?_ | refine wB ?_ | refine wG ?_ | refine wD ?_ | refine wY ?_ | refine wZ ?_ | refine wK ?_ | refine wT ?_ | refine wX ?_)
      rw [wrap_succ (by omega)]
      exact ⟨(i + 1, .int .i64 (i : Int), .bp m9 0, .int .i64 (srt s vars x).1, .bool true), _, rfl, rfl, ⟨hlt, hb05, hb15, hc⟩, (by first | omega | (dsimp only; omega))⟩
    · have h6' : ¬ (srt s vars x).1 = a := by simpa using h6
      rw [decide_eq_false h6', Bool.false_and] at hc
      rw [← hc]
      repeat (first | refine zE ?_ | refine zP ?_ | refine zD ?_ | refine zQ ?_ | refine zR ?_ | refine zS ?_ | refine wN ?_ | refine wM ?_ | refine wR ?_ | refine wS ?_ | refine wB ?_ | refine wG ?_ | refine wD ?_ | refine wY ?_ | refine wZ ?_ | refine wK ?_ | refine wT ?_ | refine wX ?_)
      exact ⟨.inr rfl, _, rfl, rfl⟩
  · refine wp_no rfl (decide_eq_false (by omega)) ?_
    have hil : i = l.length := by omega
    subst hil
    rw [List.drop_length, srtL] at hc
    rw [← hc]
    repeat (first | refine zL hb0 ?_ | refine zM hb0 ?_ | refine zO hb0 ?_ | refine zL hb1 ?_ | refine zM hb1 ?_ | refine zO hb1 ?_ | refine zE ?_ | refine zP ?_ | refine zD ?_ | refine zQ ?_ | refine zR ?_ | refine zS ?_ | refine wN ?_ | refine wM ?_ | refine wR ?_ | refine wS ?_ | refine wB ?_ | refine wG ?_ | refine wD ?_ | refine wY ?_ | refine wZ ?_ | refine wK ?_ | refine wT ?_ | refine wX ?_)
    refine zF (step_idx rfl rfl rfl rfl rfl rfl ⟨by omega, by omega⟩ (drop_rows (k := 3) (fun _ => rfl) ho)) ?_
    repeat (first | refine zE ?_ | refine zP ?_ | refine zD ?_ | refine zQ ?_ | refine zR ?_ | refine zS ?_ | refine wN ?_ | refine wM ?_ | refine wR ?_ | refine wS ?_ | refine wB ?_ | refine wG ?_ | refine wD ?_ | refine wY ?_ | refine wZ ?_ | refine wK ?_ | refine wT ?_ | refine wX ?_)
    exact ⟨.inr rfl, _, rfl, rfl⟩
end Go.Av
