/- Contracts over the evaluator: equations made standard by the program. Conditions: none beyond the hypotheses of each theorem. -/
import Derived.Test.YtdjgjnahfekdhaaGreatDoorV2
set_option linter.unusedSectionVars false
set_option linter.unusedVariables false
set_option linter.unusedSimpArgs false
namespace Go.Av
open Go.Proofs
set_option maxRecDepth 100000
def posL : List Int → Nat → List (Int × V)
  | [], _ => []
  | v :: l, k => (v, .int .i64 (k : Int)) :: posL l (k + 1)
theorem posL_fst : ∀ (l : List Int) (k : Nat), (posL l k).map Prod.fst = l
  | [], _ => rfl
  | v :: l, k => by rw [posL, List.map_cons, posL_fst l]
theorem posL_snoc (x : Int) : ∀ (l : List Int) (k : Nat), posL l k ++ [(x, .int .i64 ((k + l.length : Nat) : Int))] = posL (l ++ [x]) k
  | [], k => rfl
  | v :: l, k => by
    have := posL_snoc x l (k + 1)
    rw [posL, List.cons_append, List.cons_append, posL, ← this, List.length_cons, show k + 1 + l.length = k + (l.length + 1) by omega]
theorem posL_lookup {x : Int} : ∀ {l : List Int} (k : Nat), x ∈ l → (posL l k).lookup x = some (.int .i64 ((k + l.idxOf x : Nat) : Int))
  | [], _, h => by cases h
  | v :: l, k, h => by
    rw [posL, List.lookup_cons]
    by_cases e : x = v
    · subst e
      rw [beq_self_eq_true, List.idxOf_cons_self]; rfl
    · have e1 : (x == v) = false := by simpa using e
      rw [e1, posL_lookup (k + 1) ((List.mem_cons.1 h).resolve_left e), List.idxOf_cons, show (v == x) = false by simpa using Ne.symm e, cond_false]
      simp only
      rw [show k + 1 + l.idxOf x = k + (l.idxOf x + 1) by omega]
structure PosM (H : Heap) (j id : Nat) (l : List Int) : Prop where
  box : H[j]? = some (.box [.mp id])
  map : H[id]? = some (.map (mapE intK (posL l 0)))
  nd : l.Nodup
  key : ∀ v, v ∈ l → cfg.keyed 3 (intK v) = true
theorem PosM.mono {H H' : Heap} {j id : Nat} {l : List Int} (h : PosM H j id l) (hs : ∀ i, i < H.length → H'[i]? = H[i]?) : PosM H' j id l :=
  ⟨by rw [hs _ (get_lt h.box)]; exact h.box, by rw [hs _ (get_lt h.map)]; exact h.map, h.nd, h.key⟩
theorem dirty_pure : Cls.pure.dirty = [] := rfl
theorem dirty_reads (t : Nat) : (Cls.reads t).dirty = [] := rfl
theorem dirty_pcall : Cls.pcall.dirty = [] := rfl
theorem dirty_add : Cls.add.dirty = [] := rfl
theorem dirty_loc (t : Nat) : (Cls.loc t).dirty = [t] := rfl
theorem PosM.two {H H' : Heap} {j id : Nat} {l : List Int} (h : PosM H j id l) (h1 : H'[j]? = H[j]?) (h2 : H'[id]? = H[id]?) : PosM H' j id l :=
  ⟨by rw [h1]; exact h.box, by rw [h2]; exact h.map, h.nd, h.key⟩
def renN (l : List Int) (k n : Int) : Int := if k = 1 then (l.idxOf n : Nat) else n
theorem F190 : cfg.F 190 = some Tryz.f190 := rfl
set_option maxHeartbeats 4000000 in
theorem std3_fnH (k n : Int) (H : Heap) (j id : Nat) (l : List Int) (hm : PosM H j id l) (hin : k = 1 → n ∈ l) : FnH 190 [.agg [.int .i64 k, .int .i64 n, .sl 0 true []], .bp j 0] H (.agg [.int .i64 k, .int .i64 (renN l k n), .sl 0 true []]) := by
  have g1 := get_lt hm.box
  have g2 := get_lt hm.map
  refine FnH.of_wp F190 rfl ?_
  simp only [show Tryz.f190.ntmps = 13 from rfl, List.length_cons, List.length_nil, List.replicate, List.cons_append, List.nil_append]
  refine wp_seq ?_
  refine wp_region ?_
  refine run_new rfl rfl (fun m => (by dsimp only [putTm, List.set])) ?_
  intro m2 H1 hm2 hl1 hb2 hold1
  refine run_new rfl rfl (fun m => (by dsimp only [putTm, List.set])) ?_
  intro m3 H2 hm3 hl2 hb3 hold2
  have hp : PosM H2 j id l := hm.mono fun i hi => by rw [hold2 i (by omega), hold1 i (by omega)]
  have hb22 : H2[m2]? = some (.box [.int .i64 k, .int .i64 n, .sl 0 true []]) := by rw [hold2 m2 (by omega)]; exact hb2
  have hbx := hp.box
  repeat (first | refine zL hb22 ?_ | refine zM hb22 ?_ | refine zO hb22 ?_ | refine zE ?_ | refine zP ?_ | refine zD ?_ | refine zQ ?_ | refine zR ?_ | refine zS ?_ | refine wN ?_ | refine wM ?_ | refine wR ?_ | refine wS ?_ | refine wB ?_ | refine wG ?_ | refine wD ?_ | refine wY ?_ | refine wZ ?_ | refine wK ?_ | refine wT ?_ | refine wX ?_)
  cases h1 : (k == 1)
  case false =>
    have h1' : ¬ k = 1 := by simpa using h1
    unfold renN
    rw [if_neg h1']
    repeat (first | refine zL hb22 ?_ | refine zM hb22 ?_ | refine zO hb22 ?_ | refine zE ?_ | refine zP ?_ | refine zD ?_ | refine zQ ?_ | refine zR ?_ | refine zS ?_ | refine wN ?_ | refine wM ?_ | refine wR ?_ | refine wS ?_ | refine wB ?_ | refine wG ?_ | refine wD ?_ | refine wY ?_ | refine wZ ?_ | refine wK ?_ | refine wT ?_ | refine wX ?_)
    refine run_store (v := .agg [.int .i64 k, .int .i64 n, .sl 0 true []]) rfl rfl rfl rfl rfl rfl rfl hb3 (cs' := [.int .i64 k, .int .i64 n, .sl 0 true []]) rfl (by dsimp only [putTm, List.set]) ?_
    intro H3 hl3 hb33 ho3
    repeat (first | refine zE ?_ | refine zP ?_ | refine zD ?_ | refine zQ ?_ | refine zR ?_ | refine zS ?_ | refine wN ?_ | refine wM ?_ | refine wR ?_ | refine wS ?_ | refine wB ?_ | refine wG ?_ | refine wD ?_ | refine wY ?_ | refine wZ ?_ | refine wK ?_ | refine wT ?_ | refine wX ?_)
    refine ⟨.inr rfl, .agg [.int .i64 k, .int .i64 n, .sl 0 true []], results_cell rfl rfl rfl hb33 rfl, fun i hi => ?_, rfl⟩
    simp [Cls.dirty] at hi; omega
  have h1' : k = 1 := by simpa using h1
  unfold renN
  rw [if_pos h1']
  have hL : ∀ b, b ∈ (posL l 0).map Prod.fst → cfg.keyed 3 (intK b) = true := fun b hb => by
    rw [posL_fst] at hb
    exact hm.key b hb
  repeat (first | refine zL hb22 ?_ | refine zM hb22 ?_ | refine zO hb22 ?_ | refine zL hbx ?_ | refine zM hbx ?_ | refine zO hbx ?_ | refine zE ?_ | refine zP ?_ | refine zD ?_ | refine zQ ?_ | refine zR ?_ | refine zS ?_ | refine wN ?_ | refine wM ?_ | refine wR ?_ | refine wS ?_ | refine wB ?_ | refine wG ?_ | refine wD ?_ | refine wY ?_ | refine wZ ?_ | refine wK ?_ | refine wT ?_ | refine wX ?_)
  refine zF (step_lookup (k := intK) (a := n) rfl rfl rfl rfl rfl rfl rfl rfl intK_eq (hm.key n (hin h1')) hL hp.map (by rw [posL_fst]; exact hm.nd)) ?_
  have hlk := posL_lookup 0 (hin h1')
  rw [Nat.zero_add] at hlk
  rw [hlk]
  simp only [Option.getD_some]
  repeat (first | refine zE ?_ | refine zP ?_ | refine zD ?_ | refine zQ ?_ | refine zR ?_ | refine zS ?_ | refine wN ?_ | refine wM ?_ | refine wR ?_ | refine wS ?_ | refine wB ?_ | refine wG ?_ | refine wD ?_ | refine wY ?_ | refine wZ ?_ | refine wK ?_ | refine wT ?_ | refine wX ?_)
  refine run_store (v := .int .i64 ((l.idxOf n : Nat) : Int)) rfl rfl rfl rfl rfl rfl rfl hb22 (cs' := [.int .i64 k, .int .i64 ((l.idxOf n : Nat) : Int), .sl 0 true []]) rfl (by dsimp only [putTm, List.set]) ?_
  intro H3 hl3 hb23 ho3
  have hb33 : H3[m3]? = some (.box [.int .i64 0, .int .i64 0, .sl 0 true []]) := by rw [ho3 m3 (by omega)]; exact hb3
  repeat (first | refine zL hb23 ?_ | refine zM hb23 ?_ | refine zO hb23 ?_ | refine zE ?_ | refine zP ?_ | refine zD ?_ | refine zQ ?_ | refine zR ?_ | refine zS ?_ | refine wN ?_ | refine wM ?_ | refine wR ?_ | refine wS ?_ | refine wB ?_ | refine wG ?_ | refine wD ?_ | refine wY ?_ | refine wZ ?_ | refine wK ?_ | refine wT ?_ | refine wX ?_)
  refine run_store (v := .agg [.int .i64 k, .int .i64 ((l.idxOf n : Nat) : Int), .sl 0 true []]) rfl rfl rfl rfl rfl rfl rfl hb33 (cs' := [.int .i64 k, .int .i64 ((l.idxOf n : Nat) : Int), .sl 0 true []]) rfl (by dsimp only [putTm, List.set]) ?_
  intro H4 hl4 hb34 ho4
  repeat (first | refine zE ?_ | refine zP ?_ | refine zD ?_ | refine zQ ?_ | refine zR ?_ | refine zS ?_ | refine wN ?_ | refine wM ?_ | refine wR ?_ | refine wS ?_ | refine wB ?_ | refine wG ?_ | refine wD ?_ | refine wY ?_ | refine wZ ?_ | refine wK ?_ | refine wT ?_ | refine wX ?_)
  refine ⟨.inr rfl, .agg [.int .i64 k, .int .i64 ((l.idxOf n : Nat) : Int), .sl 0 true []], results_cell rfl rfl rfl hb34 rfl, fun i hi => ?_, rfl⟩
  simp [Cls.dirty] at hi; omega
theorem renT_node {l : List Int} {k n : Int} {f : Bool} {ch : List T} (h1 : k = 1 → ch = []) (hin : k = 1 → n ∈ l) : renT l (.mk k n f ch) = .mk k (renN l k n) (renL l ch).isEmpty (renL l ch) := by
  rw [renT]
  unfold renN
  by_cases h : k = 1
  · rw [if_pos h, if_pos h, if_pos (by simpa using hin h), h1 h, h, renL]; rfl
  · rw [if_neg h, if_neg h]
theorem F189 : cfg.F 189 = some Tryz.f189 := rfl
set_option maxHeartbeats 16000000 in
theorem each_fnH (l : List Int) (j id : Nat) : ∀ (t : T), t.Fit → nodeT t = true → (∀ v, v ∈ varsT t [] → v ∈ l) → ∀ (H : Heap), PosM H j id l → FnH 189 [.agg (tV t), .fn 190 [.bp j 0]] H (.agg (tV (renT l t))) := by
  refine T_ind ?_
  intro k n f ch ih hfit hnode hv H0 hm
  rw [T.Fit] at hfit
  obtain ⟨hn0, hk, hk1, hl8, hch⟩ := nodeT_mk hnode
  have hin : k = 1 → n ∈ l := fun h => hv n (by rw [varsT, if_pos h]; simp)
  have hvc : ∀ x, x ∈ ch → ∀ v, v ∈ varsT x [] → v ∈ l := fun x hx v h => by
    by_cases h1 : k = 1
    · rw [hk1 h1] at hx; cases hx
    · exact hv v (by rw [varsT, if_neg h1, varsL_mem]; exact .inr ⟨x, hx, h⟩)
  rw [tV_mk, renT_node hk1 hin]
  have g1 := get_lt hm.box
  have g2 := get_lt hm.map
  have hob : Obj [.bp j 0] := ⟨.bp j 0, by simp, .inl ⟨_, _, rfl⟩⟩
  refine FnH.of_wp F189 rfl ?_
  simp only [show Tryz.f189.ntmps = 32 from rfl, List.length_cons, List.length_nil, List.replicate, List.cons_append, List.nil_append]
  refine wp_seq ?_
  refine wp_region ?_
  refine run_new rfl rfl (fun m => (by dsimp only [putTm, List.set])) ?_
  intro m2 H1 hm2 hl1 hb2 hold1
  refine run_new rfl rfl (fun m => (by dsimp only [putTm, List.set])) ?_
  intro m4 H2 hm4 hl2 hb4 hold2
  have hp : PosM H2 j id l := hm.mono fun i hi => by rw [hold2 i (by omega), hold1 i (by omega)]
  have hb22 : H2[m2]? = some (.box [.int .i64 k, .int .i64 n, .sl ch.length f (rows tV ch)]) := by rw [hold2 m2 (by omega)]; exact hb2
  repeat (first | refine zL hb22 ?_ | refine zM hb22 ?_ | refine zO hb22 ?_ | refine zE ?_ | refine zP ?_ | refine zD ?_ | refine zQ ?_ | refine zR ?_ | refine zS ?_ | refine wN ?_ | refine wM ?_ | refine wR ?_ | refine wS ?_ | refine wB ?_ | refine wG ?_ | refine wD ?_ | refine wY ?_ | refine wZ ?_ | refine wK ?_ | refine wT ?_ | refine wX ?_)
  refine zF (step_call (ev_callv rfl rfl rfl rfl rfl rfl) rfl ((std3_fnH k n H2 j id l hp hin).call (by decide) rfl (mapM_none (x := .bp j 0) (by simp) rfl))) ?_
  refine run_new rfl rfl (fun m => (by dsimp only [putTm, List.set])) ?_
  intro m5 H3 hm5 hl3 hb5 hold3
  refine run_store (v := .agg [.int .i64 k, .int .i64 (renN l k n), .sl 0 true []]) rfl rfl rfl rfl rfl rfl rfl hb5 (cs' := [.int .i64 k, .int .i64 (renN l k n), .sl 0 true []]) rfl (by dsimp only [putTm, List.set]) ?_
  intro H4 hl4 hb54 ho4
  have hp4 : PosM H4 j id l := hp.mono fun i hi => by rw [ho4 i (by omega), hold3 i (by omega)]
  have hb24 : H4[m2]? = some (.box [.int .i64 k, .int .i64 n, .sl ch.length f (rows tV ch)]) := by rw [ho4 m2 (by omega), hold3 m2 (by omega)]; exact hb22
  have hb44 : H4[m4]? = some (.box [.int .i64 0, .int .i64 0, .sl 0 true []]) := by rw [ho4 m4 (by omega), hold3 m4 (by omega)]; exact hb4
  repeat (first | refine zL hb24 ?_ | refine zM hb24 ?_ | refine zO hb24 ?_ | refine zE ?_ | refine zP ?_ | refine zD ?_ | refine zQ ?_ | refine zR ?_ | refine zS ?_ | refine wN ?_ | refine wM ?_ | refine wR ?_ | refine wS ?_ | refine wB ?_ | refine wG ?_ | refine wD ?_ | refine wY ?_ | refine wZ ?_ | refine wK ?_ | refine wT ?_ | refine wX ?_)
  refine wp_loop4 19 13 (fun (a : Nat × V) l => ((l.set 18 (.int .i64 (a.1 : Int))).set 7 a.2))
    (fun a H d => a.1 ≤ ch.length ∧ H0.length ≤ H.length ∧ PosM H j id l ∧ H[m4]? = some (.box [.int .i64 0, .int .i64 0, .sl 0 true []]) ∧ (∃ w, H[m5]? = some (.box [.int .i64 k, .int .i64 (renN l k n), w]) ∧ Rep tV 3 H H0.length ((ch.take a.1).map (renT l)) w) ∧ ∀ i, i ∈ d → H0.length ≤ i) (fun a => ch.length - a.1) (0, .junk) rfl rfl ⟨Nat.zero_le _, by omega, hp4, hb44, ⟨_, hb54, Rep.nil⟩, fun i hi => by simp [Cls.dirty] at hi; omega⟩ ?_
  rintro ⟨i, v7⟩ H d u ⟨hi, hlen, hpm, hbr, ⟨w, hbo, hrep⟩, hd⟩
  dsimp only [List.take, List.set] at hi hrep ⊢
  (rw [show (List.range 13).map u = [u 0, u 1, u 2, u 3, u 4, u 5, u 6, u 7, u 8, u 9, u 10, u 11, u 12] from rfl]; simp only [List.cons_append, List.nil_append])
  repeat (first | refine zE ?_ | refine zP ?_ | refine zD ?_ | refine zQ ?_ | refine zR ?_ | refine zS ?_ | refine wN ?_ | refine wM ?_ | refine wR ?_ | refine wS ?_ | refine wB ?_ | refine wG ?_ | refine wD ?_ | refine wY ?_ | refine wZ ?_ | refine wK ?_ | refine wT ?_ | refine wX ?_)
  by_cases hlt : i < ch.length
  · refine wp_yes rfl (decide_eq_true (by omega)) ?_
    obtain ⟨x, hx⟩ := get_of hlt
    have hmem := List.mem_of_getElem? hx
    repeat (first | refine zE ?_ | refine zP ?_ | refine zD ?_ | refine zQ ?_ | refine zR ?_ | refine zS ?_ | refine wN ?_ | refine wM ?_ | refine wR ?_ | refine wS ?_ | refine wB ?_ | refine wG ?_ | refine wD ?_ | refine wY ?_ | refine wZ ?_ | refine wK ?_ | refine wT ?_ | refine wX ?_)
    refine zF (step_idx rfl rfl rfl rfl rfl rfl ⟨by omega, by omega⟩ (drop_rows (k := 3) tV_len hx)) ?_
    refine zF (step_enc rfl rfl rfl (tV_len _) rfl) ?_
    refine run_new rfl rfl (fun m => (by dsimp only [putTm, List.set])) ?_
    intro m7 H5 hm7 hl5 hb7 hold5
    refine run_store (v := .agg (tV x)) rfl rfl rfl rfl rfl (tV_one x) (tV_len x) hb7 (cs' := tV x) (splice_full (tV_len x).symm) (by dsimp only [putTm, List.set]) ?_
    intro H6 hl6 hb76 ho6
    have gr := get_lt hbr
    have go := get_lt hbo
    have hold6 : ∀ i, i < H.length → H6[i]? = H[i]? := fun i hi => by rw [ho6 i (by omega), hold5 i (by omega)]
    have hpm6 : PosM H6 j id l := hpm.mono hold6
    have hbo6 : H6[m5]? = some (.box [.int .i64 k, .int .i64 (renN l k n), w]) := by rw [hold6 m5 go]; exact hbo
    have hbr6 : H6[m4]? = some (.box [.int .i64 0, .int .i64 0, .sl 0 true []]) := by rw [hold6 m4 gr]; exact hbr
    have hrep6 : Rep tV 3 H6 H0.length ((ch.take i).map (renT l)) w := hrep.heap fun j hj => hold6 j (hrep.lt hj).1
    have hmt := map_take (renT l) hx
    have hcal := (ih x hmem (hfit.2.at hmem) (hch x hmem) (hvc x hmem) H6 hpm6).call (by decide) rfl (hob.strip (p := 190) (by simp))
    generalize renT l x = rx at hmt hcal
    repeat (first | refine zL hbo6 ?_ | refine zM hbo6 ?_ | refine zO hbo6 ?_ | refine zE ?_ | refine zP ?_ | refine zD ?_ | refine zQ ?_ | refine zR ?_ | refine zS ?_ | refine wN ?_ | refine wM ?_ | refine wR ?_ | refine wS ?_ | refine wB ?_ | refine wG ?_ | refine wE ?_ | refine wY ?_ | refine wZ ?_ | refine wK ?_ | refine wT ?_ | refine wX ?_)
    refine zH (step_load (v := .agg (tV x)) rfl rfl rfl hb76 (part_full rfl (tV_len x).symm)) ?_
    repeat (first | refine zL hbo6 ?_ | refine zM hbo6 ?_ | refine zO hbo6 ?_ | refine zE ?_ | refine zP ?_ | refine zD ?_ | refine zQ ?_ | refine zR ?_ | refine zS ?_ | refine wN ?_ | refine wM ?_ | refine wR ?_ | refine wS ?_ | refine wB ?_ | refine wG ?_ | refine wE ?_ | refine wY ?_ | refine wZ ?_ | refine wK ?_ | refine wT ?_ | refine wX ?_)
    refine zH (step_call rfl rfl hcal) ?_
    obtain ⟨k5, n5, f5, l5⟩ := rx
    repeat (first | refine zL hbo6 ?_ | refine zM hbo6 ?_ | refine zO hbo6 ?_ | refine zE ?_ | refine zP ?_ | refine zD ?_ | refine zQ ?_ | refine zR ?_ | refine zS ?_ | refine wN ?_ | refine wM ?_ | refine wR ?_ | refine wS ?_ | refine wB ?_ | refine wG ?_ | refine wE ?_ | refine wY ?_ | refine wZ ?_ | refine wK ?_ | refine wT ?_ | refine wX ?_)
    obtain ⟨D, w', H', c, hD, hr, ha⟩ := append_rep (fid := 189) (dst := 28) (tt := 60) tV_len (by decide) tV_one rfl rfl rfl rfl (by decide) rfl hrep6 [.mk k5 n5 f5 l5] (by simp) (by simp; omega) (by omega) true 1 rfl
    refine zH (step_append rfl rfl rfl rfl hD (hr _ rfl)) ?_
    repeat (first | refine zL hbo6 ?_ | refine zM hbo6 ?_ | refine zO hbo6 ?_ | refine zE ?_ | refine zP ?_ | refine zD ?_ | refine zQ ?_ | refine zR ?_ | refine zS ?_ | refine wN ?_ | refine wM ?_ | refine wR ?_ | refine wS ?_ | refine wB ?_ | refine wG ?_ | refine wE ?_ | refine wY ?_ | refine wZ ?_ | refine wK ?_ | refine wT ?_ | refine wX ?_)
    have hbo7 : H'[m5]? = some (.box [.int .i64 k, .int .i64 (renN l k n), w]) := by rw [ha.same m5 (get_lt hbo6) (hrep6.apart hbo6)]; exact hbo6
    refine runR_store rfl rfl rfl rfl rfl ha.rep.solid (by rw [ha.rep.cells]; rfl) hbo7 (cs' := [.int .i64 k, .int .i64 (renN l k n), w']) (by rw [ha.rep.cells]; rfl) (by dsimp only [putTm, List.set]) ?_
    intro H8 hl8 hbo8 ho8
    repeat (first | refine zL hbo6 ?_ | refine zM hbo6 ?_ | refine zO hbo6 ?_ | refine zE ?_ | refine zP ?_ | refine zD ?_ | refine zQ ?_ | refine zR ?_ | refine zS ?_ | refine wN ?_ | refine wM ?_ | refine wR ?_ | refine wS ?_ | refine wB ?_ | refine wG ?_ | refine wE ?_ | refine wY ?_ | refine wZ ?_ | refine wK ?_ | refine wT ?_ | refine wX ?_)
    rw [wrap_succ (by omega)]
    have hla := ha.len
    refine ⟨(i + 1, .bp m7 0), _, rfl, rfl, ⟨hlt, by omega, ?_, ?_, ⟨w', hbo8, ?_⟩, ?_⟩, (by first | omega | (dsimp only; omega))⟩
    · have hne : ∀ q, q < H0.length → H8[q]? = H6[q]? := fun q hq => by
        rw [ho8 q (by omega), ha.same q (by omega) fun e => by have := (hrep6.lt e).2; omega]
      exact hpm6.two (hne j g1) (hne id g2)
    · rw [ho8 m4 (by omega), ha.same m4 (by omega) (hrep6.apart hbr6)]; exact hbr6
    · rw [hmt]
      exact ha.rep.heap fun q hq => ho8 q (by rintro rfl; exact ha.rep.apart hbo7 hq)
    · intro q hq
      have hcd : ∀ q, q ∈ c.dirty → H0.length ≤ q := fun q hq => (hrep6.lt (ha.dirty q hq)).2
      simp only [dirty_pure, dirty_reads, dirty_pcall, dirty_add, dirty_loc, List.nil_append, List.mem_append, List.mem_cons, List.not_mem_nil, false_or, or_false] at hq
      rcases hq with rfl | hq | rfl | hq
      · omega
      · exact hcd q hq
      · omega
      · exact hd q hq
  refine wp_no rfl (decide_eq_false (by omega)) ?_
  have hil : i = ch.length := by omega
  subst hil
  rw [List.take_length] at hrep
  rw [renL_map]
  generalize ch.map (renT l) = nch at hrep ⊢
  repeat (first | refine zL hbo ?_ | refine zM hbo ?_ | refine zO hbo ?_ | refine zE ?_ | refine zP ?_ | refine zD ?_ | refine zQ ?_ | refine zR ?_ | refine zS ?_ | refine wN ?_ | refine wM ?_ | refine wR ?_ | refine wS ?_ | refine wB ?_ | refine wG ?_ | refine wD ?_ | refine wY ?_ | refine wZ ?_ | refine wK ?_ | refine wT ?_ | refine wX ?_)
  refine run_store (v := .agg [.int .i64 k, .int .i64 (renN l k n), w]) rfl rfl rfl rfl rfl (by show (true && (true && (w.one && true))) = true; rw [hrep.one]; rfl) rfl hbr (cs' := [.int .i64 k, .int .i64 (renN l k n), w]) rfl (by dsimp only [putTm, List.set]) ?_
  intro H5 hl5 hb45 ho5
  repeat (first | refine zE ?_ | refine zP ?_ | refine zD ?_ | refine zQ ?_ | refine zR ?_ | refine zS ?_ | refine wN ?_ | refine wM ?_ | refine wR ?_ | refine wS ?_ | refine wB ?_ | refine wG ?_ | refine wD ?_ | refine wY ?_ | refine wZ ?_ | refine wK ?_ | refine wT ?_ | refine wX ?_)
  refine ⟨.inr rfl, .agg [.int .i64 k, .int .i64 (renN l k n), w], results_cell rfl rfl rfl hb45 rfl, fun q hq => ?_, ?_⟩
  · simp only [dirty_pure, dirty_reads, dirty_pcall, dirty_add, dirty_loc, List.nil_append, List.mem_append, List.mem_cons, List.not_mem_nil, false_or, or_false] at hq
    rcases hq with rfl | hq
    · omega
    · exact hd q hq
  · rw [← slOf_mk]
    exact strip_agg (strips_cons rfl (strips_cons rfl (strips_cons ((hrep.heap fun q hq => ho5 q (by rintro rfl; exact hrep.apart hbr hq)).strips tV_len flat_tV) rfl)))
theorem F188 : cfg.F 188 = some Tryz.f188 := rfl
theorem std2_fnH (l : List Int) (j id : Nat) (t : T) (hf : t.Fit) (hn : nodeT t = true) (hv : ∀ v, v ∈ varsT t [] → v ∈ l) (H : Heap) (hm : PosM H j id l) : FnH 188 [.agg (tV t), .bp j 0] H (.agg (tV (renT l t))) := by
  have hob : Obj [.bp j 0] := ⟨.bp j 0, by simp, .inl ⟨_, _, rfl⟩⟩
  obtain ⟨k, n, f, ch⟩ := t
  refine FnH.of_wp F188 rfl ?_
  simp only [show Tryz.f188.ntmps = 7 from rfl, List.length_cons, List.length_nil, List.replicate, List.cons_append, List.nil_append]
  refine wp_seq ?_
  refine wp_region ?_
  refine run_new rfl rfl (fun m => (by dsimp only [putTm, List.set])) ?_
  intro m2 H1 hm2 hl1 hb2 hold1
  refine run_new rfl rfl (fun m => (by dsimp only [putTm, List.set])) ?_
  intro m3 H2 hm3 hl2 hb3 hold2
  have hp : PosM H2 j id l := hm.mono fun i hi => by rw [hold2 i (by omega), hold1 i (by omega)]
  have hb22 : H2[m2]? = some (.box (tV (.mk k n f ch))) := by rw [hold2 m2 (by omega)]; exact hb2
  repeat (first | refine zL hb22 ?_ | refine zM hb22 ?_ | refine zO hb22 ?_ | refine zE ?_ | refine zP ?_ | refine zD ?_ | refine zQ ?_ | refine zR ?_ | refine zS ?_ | refine wN ?_ | refine wM ?_ | refine wR ?_ | refine wS ?_ | refine wB ?_ | refine wG ?_ | refine wD ?_ | refine wY ?_ | refine wZ ?_ | refine wK ?_ | refine wT ?_ | refine wX ?_)
  refine zF (step_call rfl rfl ((each_fnH l j id (.mk k n f ch) hf hn hv H2 hp).call (by decide) rfl (hob.strip (p := 190) (by simp)))) ?_
  refine run_store (v := .agg (tV (renT l (.mk k n f ch)))) rfl rfl rfl rfl rfl (tV_one _) (tV_len _) hb3 (cs' := tV (renT l (.mk k n f ch))) (splice_full (tV_len _).symm) (by dsimp only [putTm, List.set]) ?_
  intro H3 hl3 hb33 ho3
  repeat (first | refine zE ?_ | refine zP ?_ | refine zD ?_ | refine zQ ?_ | refine zR ?_ | refine zS ?_ | refine wN ?_ | refine wM ?_ | refine wR ?_ | refine wS ?_ | refine wB ?_ | refine wG ?_ | refine wD ?_ | refine wY ?_ | refine wZ ?_ | refine wK ?_ | refine wT ?_ | refine wX ?_)
  refine ⟨.inr rfl, .agg (tV (renT l (.mk k n f ch))), results_cell rfl rfl rfl hb33 (part_full rfl (tV_len _).symm), fun q hq => ?_, strip_flat (by show V.flats (tV _) = true; exact flat_tV _)⟩
  simp only [dirty_pure, dirty_reads, dirty_pcall, dirty_add, dirty_loc, List.nil_append, List.mem_append, List.mem_cons, List.not_mem_nil, false_or, or_false] at hq
  omega
end Go.Av
namespace Go.Av
open Go.Proofs
set_option maxRecDepth 100000
theorem F113 : cfg.F 113 = some Tryz.f113 := rfl
set_option maxHeartbeats 32000000 in
theorem stdP_fn (s : S) (e : Eq2) (he : e.Fit) (hr : e.Rng) (hsig : sigB s = true) (hq : eqnB s e = true) : Fn 113 [.agg (eV e)] (.agg (eV (stdE e))) := by
  obtain ⟨q1, q2, q3, q4, q5, q6, q7⟩ := (eqnB_pair hsig).1 hq
  obtain ⟨vs, fv, cs, fc, ⟨k1, n1, f1, l1⟩, ⟨k2, n2, f2, l2⟩⟩ := e
  unfold stdE
  have haf := he.a
  have hbf := he.b
  have hcf := he.cond
  have har := hr.a
  dsimp only at q1 q2 q3 q4 q5 q6 q7 haf hbf hcf har ⊢
  obtain ⟨p1, p2, p3, p4⟩ := pairB_vars q5
  have hva : ∀ v, v ∈ varsT (.mk k1 n1 f1 l1) [] → v ∈ varsA [.mk k1 n1 f1 l1] := fun v hv => by rw [varsA_one p1]; exact hv
  have hvb : ∀ v, v ∈ varsT (.mk k2 n2 f2 l2) [] → v ∈ varsA [.mk k1 n1 f1 l1] := fun v hv => q7 (.mk k2 n2 f2 l2) (by unfold othersL; simp) v (by rw [varsA_one p2]; exact hv)
  have hvc : ∀ (j : Nat) c, cs[j]? = some c → (nodeT c.a = true ∧ ∀ v, v ∈ varsT c.a [] → v ∈ varsA [.mk k1 n1 f1 l1]) ∧ (nodeT c.b = true ∧ ∀ v, v ∈ varsT c.b [] → v ∈ varsA [.mk k1 n1 f1 l1]) := fun j c hj => by
    have hc := List.mem_of_getElem? hj
    have h8 := pairB_vars (q6 c hc)
    refine ⟨⟨treeB_node h8.1, fun v hv => q7 c.a ?_ v (by rw [varsA_one h8.1]; exact hv)⟩, ⟨treeB_node h8.2.1, fun v hv => q7 c.b ?_ v (by rw [varsA_one h8.2.1]; exact hv)⟩⟩
    · unfold othersL; exact List.mem_cons_of_mem _ (List.mem_flatMap.2 ⟨c, hc, by simp⟩)
    · unfold othersL; exact List.mem_cons_of_mem _ (List.mem_flatMap.2 ⟨c, hc, by simp⟩)
  have hvl := varsA_len [.mk k1 n1 f1 l1] (by simp)
  have hnd := varsA_nodup [.mk k1 n1 f1 l1]
  refine Fn.of_wp F113 rfl ?_
  simp only [show Tryz.f113.ntmps = 69 from rfl, List.length_cons, List.length_nil, List.replicate, List.cons_append, List.nil_append]
  repeat (first | refine zE ?_ | refine zP ?_ | refine zD ?_ | refine zQ ?_ | refine zR ?_ | refine zS ?_ | refine wN ?_ | refine wM ?_ | refine wR ?_ | refine wS ?_ | refine wB ?_ | refine wG ?_ | refine wD ?_ | refine wY ?_ | refine wZ ?_ | refine wK ?_ | refine wT ?_ | refine wX ?_)
  refine zF (step_call rfl rfl ((Vars_fn [.mk k1 n1 f1 l1] true (by simp) (fun x hx => by simp at hx; subst hx; exact haf) (fun x hx => by simp at hx; subst hx; exact har)).cl)) ?_
  generalize varsA [.mk k1 n1 f1 l1] = l at *
  have hkey : ∀ v, v ∈ l → cfg.keyed 3 (intK v) = true := fun v hv => by
    have := p3 v hv
    exact intK_keyed (by omega) (by omega)
  repeat (first | refine zE ?_ | refine zP ?_ | refine zD ?_ | refine zQ ?_ | refine zR ?_ | refine zS ?_ | refine wN ?_ | refine wM ?_ | refine wR ?_ | refine wS ?_ | refine wB ?_ | refine wG ?_ | refine wD ?_ | refine wY ?_ | refine wZ ?_ | refine wK ?_ | refine wT ?_ | refine wX ?_)
  refine wp_loop4 17 52 (fun (a : Nat × V × V) l => (((l.set 16 (.int .i64 (a.1 : Int))).set 5 a.2.1).set 6 a.2.2))
    (fun a H d => a.1 ≤ l.length ∧ H[0]? = some (.box (eV ⟨vs, fv, cs, fc, .mk k1 n1 f1 l1, .mk k2 n2 f2 l2⟩)) ∧ H[1]? = some (.box zero8) ∧ H[4]? = some (.box [.mp 3]) ∧ H[3]? = some (.map (mapE intK (posL (l.take a.1) 0))) ∧ ∃ v, H[2]? = some (.box [v, .sl 0 true [], .int .i64 0, .int .i64 0, .sl 0 true [], .int .i64 0, .int .i64 0, .sl 0 true []]) ∧ Rep intV 1 H 0 ((l.take a.1).map fun v => vs.getD v.toNat 0) v) (fun a => l.length - a.1) (0, .junk, .junk) rfl rfl ⟨Nat.zero_le _, rfl, rfl, rfl, rfl, _, rfl, Rep.nil⟩ ?_
  rintro ⟨i, v5, v6⟩ H d u ⟨hi, hb0, hb1, hb4, hmp, v, hb2, hrep⟩
  dsimp only [List.take, List.set] at hi hmp hrep ⊢
  (rw [show (List.range 52).map u = [u 0, u 1, u 2, u 3, u 4, u 5, u 6, u 7, u 8, u 9, u 10, u 11, u 12, u 13, u 14, u 15, u 16, u 17, u 18, u 19, u 20, u 21, u 22, u 23, u 24, u 25, u 26, u 27, u 28, u 29, u 30, u 31, u 32, u 33, u 34, u 35, u 36, u 37, u 38, u 39, u 40, u 41, u 42, u 43, u 44, u 45, u 46, u 47, u 48, u 49, u 50, u 51] from rfl]; simp only [List.cons_append, List.nil_append])
  repeat (first | refine zE ?_ | refine zP ?_ | refine zD ?_ | refine zQ ?_ | refine zR ?_ | refine zS ?_ | refine wN ?_ | refine wM ?_ | refine wR ?_ | refine wS ?_ | refine wB ?_ | refine wG ?_ | refine wD ?_ | refine wY ?_ | refine wZ ?_ | refine wK ?_ | refine wT ?_ | refine wX ?_)
  by_cases hlt : i < l.length
  · refine wp_yes rfl (decide_eq_true (by omega)) ?_
    obtain ⟨x, hx⟩ := get_of hlt
    have hxi := p3 x (List.mem_of_getElem? hx)
    obtain ⟨m, rfl⟩ : ∃ m : Nat, x = m := ⟨x.toNat, by omega⟩
    obtain ⟨y, hy⟩ := get_of (show m < vs.length by omega)
    have hmt := map_take (fun v => vs.getD v.toNat 0) hx
    rw [show vs.getD ((m : Int)).toNat 0 = y by rw [Int.toNat_natCast, List.getD_eq_getElem?_getD, hy]; rfl] at hmt
    have hps : posL (l.take i) 0 ++ [((m : Int), .int .i64 (i : Int))] = posL (l.take (i + 1)) 0 := by
      rw [List.take_add_one, hx]
      have := posL_snoc (m : Int) (l.take i) 0
      rw [List.length_take, Nat.min_eq_left (by omega), Nat.zero_add] at this
      exact this
    have hL : ∀ b, b ∈ (posL (l.take i) 0).map Prod.fst → cfg.keyed 3 (intK b) = true := fun b hb => by
      rw [posL_fst] at hb
      exact hkey b (List.mem_of_mem_take hb)
    have hnot : (m : Int) ∉ (posL (l.take i) 0).map Prod.fst := fun hb => by
      rw [posL_fst] at hb
      obtain ⟨j, hj, hjx⟩ := take_get hb
      exact nodup_ne hnd hj hx hjx rfl
    repeat (first | refine zE ?_ | refine zP ?_ | refine zD ?_ | refine zQ ?_ | refine zR ?_ | refine zS ?_ | refine wN ?_ | refine wM ?_ | refine wR ?_ | refine wS ?_ | refine wB ?_ | refine wG ?_ | refine wD ?_ | refine wY ?_ | refine wZ ?_ | refine wK ?_ | refine wT ?_ | refine wX ?_)
    refine zF (step_idx rfl rfl rfl rfl rfl rfl ⟨by omega, by omega⟩ (drop_rows (k := 1) (fun _ => rfl) hx)) ?_
    repeat (first | refine zL hb4 ?_ | refine zM hb4 ?_ | refine zO hb4 ?_ | refine zE ?_ | refine zP ?_ | refine zD ?_ | refine zQ ?_ | refine zR ?_ | refine zS ?_ | refine wN ?_ | refine wM ?_ | refine wR ?_ | refine wS ?_ | refine wB ?_ | refine wG ?_ | refine wD ?_ | refine wY ?_ | refine wZ ?_ | refine wK ?_ | refine wT ?_ | refine wX ?_)
    refine run_mapput rfl (step_mapput (k := intK) (a := (m : Int)) (w := .int .i64 (i : Int)) rfl rfl rfl rfl rfl rfl intK_eq (hkey _ (List.mem_of_getElem? hx)) hL hmp hnot) hmp (by dsimp only [putTm, List.set]) ?_
    rw [hps]
    intro H1 hl1 hmp1 ho1
    have hb01 : H1[0]? = some (.box (eV ⟨vs, fv, cs, fc, .mk k1 n1 f1 l1, .mk k2 n2 f2 l2⟩)) := by rw [ho1 0 (by decide)]; exact hb0
    have hb21 : H1[2]? = some (.box [v, .sl 0 true [], .int .i64 0, .int .i64 0, .sl 0 true [], .int .i64 0, .int .i64 0, .sl 0 true []]) := by rw [ho1 2 (by decide)]; exact hb2
    have hrep1 : Rep intV 1 H1 0 ((l.take i).map fun v => vs.getD v.toNat 0) v := hrep.heap fun j hj => ho1 j (by rintro rfl; obtain ⟨_, _, _, _, hk⟩ := hrep.kind hj; rw [hmp] at hk; cases hk)
    repeat (first | refine zL hb01 ?_ | refine zM hb01 ?_ | refine zO hb01 ?_ | refine zL hb21 ?_ | refine zM hb21 ?_ | refine zO hb21 ?_ | refine zE ?_ | refine zP ?_ | refine zD ?_ | refine zQ ?_ | refine zR ?_ | refine zS ?_ | refine wN ?_ | refine wM ?_ | refine wR ?_ | refine wS ?_ | refine wB ?_ | refine wG ?_ | refine wE ?_ | refine wY ?_ | refine wZ ?_ | refine wK ?_ | refine wT ?_ | refine wX ?_)
    refine zH (step_idx rfl rfl rfl rfl rfl rfl ⟨by omega, by omega⟩ (drop_rows (k := 1) (fun _ => rfl) hy)) ?_
    repeat (first | refine zL hb01 ?_ | refine zM hb01 ?_ | refine zO hb01 ?_ | refine zL hb21 ?_ | refine zM hb21 ?_ | refine zO hb21 ?_ | refine zE ?_ | refine zP ?_ | refine zD ?_ | refine zQ ?_ | refine zR ?_ | refine zS ?_ | refine wN ?_ | refine wM ?_ | refine wR ?_ | refine wS ?_ | refine wB ?_ | refine wG ?_ | refine wE ?_ | refine wY ?_ | refine wZ ?_ | refine wK ?_ | refine wT ?_ | refine wX ?_)
    obtain ⟨D, v', H', c, hD, hr, ha⟩ := append_rep (fid := 113) (dst := 32) (tt := 27) intV_len (by decide) intV_one rfl rfl rfl rfl (by decide) rfl hrep1 [y] (by simp) (by simp; omega) (Nat.zero_le _) true 1 rfl
    refine zH (step_append rfl rfl rfl rfl hD (hr _ rfl)) ?_
    repeat (first | refine zL hb01 ?_ | refine zM hb01 ?_ | refine zO hb01 ?_ | refine zE ?_ | refine zP ?_ | refine zD ?_ | refine zQ ?_ | refine zR ?_ | refine zS ?_ | refine wN ?_ | refine wM ?_ | refine wR ?_ | refine wS ?_ | refine wB ?_ | refine wG ?_ | refine wE ?_ | refine wY ?_ | refine wZ ?_ | refine wK ?_ | refine wT ?_ | refine wX ?_)
    have hb2' : H'[2]? = some (.box [v, .sl 0 true [], .int .i64 0, .int .i64 0, .sl 0 true [], .int .i64 0, .int .i64 0, .sl 0 true []]) := by rw [ha.same 2 (get_lt hb21) (hrep1.apart hb21)]; exact hb21
    refine runR_store (k := 2) rfl rfl rfl rfl rfl ha.rep.solid (by rw [ha.rep.cells]; rfl) hb2' (cs' := [v', .sl 0 true [], .int .i64 0, .int .i64 0, .sl 0 true [], .int .i64 0, .int .i64 0, .sl 0 true []]) (by rw [ha.rep.cells]; rfl) (by dsimp only [putTm, List.set]) ?_
    intro H2 hl2 hs2 ho2
    repeat (first | refine zL hb01 ?_ | refine zM hb01 ?_ | refine zO hb01 ?_ | refine zE ?_ | refine zP ?_ | refine zD ?_ | refine zQ ?_ | refine zR ?_ | refine zS ?_ | refine wN ?_ | refine wM ?_ | refine wR ?_ | refine wS ?_ | refine wB ?_ | refine wG ?_ | refine wE ?_ | refine wY ?_ | refine wZ ?_ | refine wK ?_ | refine wT ?_ | refine wX ?_)
    rw [wrap_succ (by omega)]
    have hne : ∀ (q : Nat) (cs : List V), q ≠ 2 → q ≠ 3 → H[q]? = some (.box cs) → H2[q]? = some (.box cs) := fun q cs h2 h3 hq => by
      have hq1 : H1[q]? = some (.box cs) := by rw [ho1 q h3]; exact hq
      rw [ho2 q h2, ha.same q (get_lt hq1) (hrep1.apart hq1)]; exact hq1
    refine ⟨(i + 1, .int .i64 (i : Int), .int .i64 (m : Int)), _, rfl, rfl, ⟨hlt, hne 0 _ (by decide) (by decide) hb0, hne 1 _ (by decide) (by decide) hb1, hne 4 _ (by decide) (by decide) hb4, ?_, v', hs2, ?_⟩, (by first | omega | (dsimp only; omega))⟩
    · rw [ho2 3 (by decide), ha.same 3 (get_lt hmp1) (fun e => by obtain ⟨_, _, _, _, hk⟩ := hrep1.kind e; rw [hmp1] at hk; cases hk)]; exact hmp1
    · rw [hmt]
      exact ha.rep.heap fun j hj => ho2 j (by rintro rfl; exact ha.rep.apart hb2' hj)
  refine wp_no rfl (decide_eq_false (by omega)) ?_
  have hil : i = l.length := by omega
  subst hil
  rw [List.take_length] at hrep hmp
  generalize hvars : l.map (fun v => vs.getD v.toNat 0) = nvs at *
  have hnl : nvs.length = l.length := by rw [← hvars]; simp
  have hpm : PosM H 4 3 l := ⟨hb4, hmp, hnd, hkey⟩
  repeat (first | refine zL hb0 ?_ | refine zM hb0 ?_ | refine zO hb0 ?_ | refine zE ?_ | refine zP ?_ | refine zD ?_ | refine zQ ?_ | refine zR ?_ | refine zS ?_ | refine wN ?_ | refine wM ?_ | refine wR ?_ | refine wS ?_ | refine wB ?_ | refine wG ?_ | refine wE ?_ | refine wY ?_ | refine wZ ?_ | refine wK ?_ | refine wT ?_ | refine wX ?_)
  refine zH (step_call (ev_callv rfl rfl rfl rfl rfl rfl) rfl ((std2_fnH l 4 3 (.mk k1 n1 f1 l1) haf (treeB_node p1) hva H hpm).call (by decide) rfl (mapM_none (x := .bp 4 0) (by simp) rfl))) ?_
  repeat (first | refine zL hb0 ?_ | refine zM hb0 ?_ | refine zO hb0 ?_ | refine zE ?_ | refine zP ?_ | refine zD ?_ | refine zQ ?_ | refine zR ?_ | refine zS ?_ | refine wN ?_ | refine wM ?_ | refine wR ?_ | refine wS ?_ | refine wB ?_ | refine wG ?_ | refine wE ?_ | refine wY ?_ | refine wZ ?_ | refine wK ?_ | refine wT ?_ | refine wX ?_)
  refine zH (step_call (ev_callv rfl rfl rfl rfl rfl rfl) rfl ((std2_fnH l 4 3 (.mk k2 n2 f2 l2) hbf (treeB_node p2) hvb H hpm).call (by decide) rfl (mapM_none (x := .bp 4 0) (by simp) rfl))) ?_
  generalize renT l (.mk k1 n1 f1 l1) = ra
  generalize renT l (.mk k2 n2 f2 l2) = rb
  repeat (first | refine zL hb0 ?_ | refine zM hb0 ?_ | refine zO hb0 ?_ | refine zE ?_ | refine zP ?_ | refine zD ?_ | refine zQ ?_ | refine zR ?_ | refine zS ?_ | refine wN ?_ | refine wM ?_ | refine wR ?_ | refine wS ?_ | refine wB ?_ | refine wG ?_ | refine wE ?_ | refine wY ?_ | refine wZ ?_ | refine wK ?_ | refine wT ?_ | refine wX ?_)
  refine runR_store (k := 2) (v := .agg (tV ra)) rfl rfl rfl rfl rfl (tV_one _) (tV_len _) hb2 (cs' := [v, .sl 0 true []] ++ (tV ra ++ [.int .i64 0, .int .i64 0, .sl 0 true []])) (by obtain ⟨k3, n3, f3, l3⟩ := ra; rfl) (by dsimp only [putTm, List.set]) ?_
  intro H1 hl1 hb21 ho1
  repeat (first | refine zL hb0 ?_ | refine zM hb0 ?_ | refine zO hb0 ?_ | refine zE ?_ | refine zP ?_ | refine zD ?_ | refine zQ ?_ | refine zR ?_ | refine zS ?_ | refine wN ?_ | refine wM ?_ | refine wR ?_ | refine wS ?_ | refine wB ?_ | refine wG ?_ | refine wE ?_ | refine wY ?_ | refine wZ ?_ | refine wK ?_ | refine wT ?_ | refine wX ?_)
  refine runR_store (k := 2) (v := .agg (tV rb)) rfl rfl rfl rfl rfl (tV_one _) (tV_len _) hb21 (cs' := [v, .sl 0 true []] ++ (tV ra ++ tV rb)) (by obtain ⟨k3, n3, f3, l3⟩ := ra; obtain ⟨k4, n4, f4, l4⟩ := rb; rfl) (by dsimp only [putTm, List.set]) ?_
  intro H2 hl2 hb22 ho2
  have hb02 : H2[0]? = some (.box (eV ⟨vs, fv, cs, fc, .mk k1 n1 f1 l1, .mk k2 n2 f2 l2⟩)) := by rw [ho2 0 (by decide), ho1 0 (by decide)]; exact hb0
  have hb12 : H2[1]? = some (.box zero8) := by rw [ho2 1 (by decide), ho1 1 (by decide)]; exact hb1
  have hpm2 : PosM H2 4 3 l := hpm.two (by rw [ho2 4 (by decide), ho1 4 (by decide)]) (by rw [ho2 3 (by decide), ho1 3 (by decide)])
  have hrep2 : Rep intV 1 H2 0 nvs v := hrep.heap fun j hj => by
    have hj2 : j ≠ 2 := by rintro rfl; exact hrep.apart hb2 hj
    rw [ho2 j hj2, ho1 j hj2]
  clear hb0 hb1 hb4 hmp hb2 hrep hpm hb21 ho1 ho2
  repeat (first | refine zL hb02 ?_ | refine zM hb02 ?_ | refine zO hb02 ?_ | refine zE ?_ | refine zP ?_ | refine zD ?_ | refine zQ ?_ | refine zR ?_ | refine zS ?_ | refine wN ?_ | refine wM ?_ | refine wR ?_ | refine wS ?_ | refine wB ?_ | refine wG ?_ | refine wE ?_ | refine wY ?_ | refine wZ ?_ | refine wK ?_ | refine wT ?_ | refine wX ?_)
  have hmk : ∀ ra rb : T, ∃ a1 a2 a3 b1 b2 b3, tV ra = [a1, a2, a3] ∧ tV rb = [b1, b2, b3] := by
    rintro ⟨k3, n3, f3, l3⟩ ⟨k4, n4, f4, l4⟩
    exact ⟨_, _, _, _, _, _, rfl, rfl⟩
  have hone : (tV ra ++ tV rb).all V.one = true := by rw [List.all_append, tV_one, tV_one]; rfl
  have hflat : V.flats (tV ra ++ tV rb) = true := by rw [flats_append, flat_tV, flat_tV]; rfl
  have heq : ∀ (a : List Int) (c1 : List C2) (f1 f2 : Bool), eV ⟨a, f1, c1, f2, ra, rb⟩ = .sl a.length f1 (ints a) :: .sl c1.length f2 (rows cV c1) :: (tV ra ++ tV rb) := fun _ _ _ _ => rfl
  rw [heq]
  obtain ⟨a1, a2, a3, b1, b2, b3, e1, e2⟩ := hmk ra rb
  rw [e1, e2] at hb22 hone hflat ⊢
  simp only [List.cons_append, List.nil_append] at hb22 hone hflat ⊢
  clear heq hmk e1 e2
  refine wp_loop4 50 19 (fun (a : Nat × V) l => ((l.set 49 (.int .i64 (a.1 : Int))).set 9 a.2))
    (fun a H d => a.1 ≤ cs.length ∧ H[1]? = some (.box zero8) ∧ PosM H 4 3 l ∧ ∃ w, H[2]? = some (.box [v, w, a1, a2, a3, b1, b2, b3]) ∧ Rep intV 1 H 0 nvs v ∧ Rep cV 6 H 0 ((cs.take a.1).map fun c => (⟨renT l c.a, renT l c.b⟩ : C2)) w ∧ ∀ j, num w = some j → num v ≠ some j) (fun a => cs.length - a.1) (0, .junk) rfl rfl ⟨Nat.zero_le _, hb12, hpm2, _, hb22, hrep2, Rep.nil, fun j hj => by cases hj⟩ ?_
  clear hb02 hb12 hpm2 hb22 hrep2
  rintro ⟨i, v9⟩ H d u ⟨hi, hb1, hpm, w, hb2, hrepv, hrep, hap⟩
  dsimp only [List.take, List.set] at hi hrep ⊢
  (rw [show (List.range 19).map u = [u 0, u 1, u 2, u 3, u 4, u 5, u 6, u 7, u 8, u 9, u 10, u 11, u 12, u 13, u 14, u 15, u 16, u 17, u 18] from rfl]; simp only [List.cons_append, List.nil_append])
  repeat (first | refine zE ?_ | refine zP ?_ | refine zD ?_ | refine zQ ?_ | refine zR ?_ | refine zS ?_ | refine wN ?_ | refine wM ?_ | refine wR ?_ | refine wS ?_ | refine wB ?_ | refine wG ?_ | refine wD ?_ | refine wY ?_ | refine wZ ?_ | refine wK ?_ | refine wT ?_ | refine wX ?_)
  by_cases hlt : i < cs.length
  · refine wp_yes rfl (decide_eq_true (by omega)) ?_
    obtain ⟨x, hx⟩ := get_of hlt
    have hxf := hcf i x hx
    have hxn := hvc i x hx
    have hmt := map_take (fun c => (⟨renT l c.a, renT l c.b⟩ : C2)) hx
    obtain ⟨⟨k5, n5, f5, l5⟩, ⟨k6, n6, f6, l6⟩⟩ := x
    dsimp only at hxf hxn hmt
    repeat (first | refine zE ?_ | refine zP ?_ | refine zD ?_ | refine zQ ?_ | refine zR ?_ | refine zS ?_ | refine wN ?_ | refine wM ?_ | refine wR ?_ | refine wS ?_ | refine wB ?_ | refine wG ?_ | refine wD ?_ | refine wY ?_ | refine wZ ?_ | refine wK ?_ | refine wT ?_ | refine wX ?_)
    refine zF (step_idx rfl rfl rfl rfl rfl rfl ⟨by omega, by omega⟩ (drop_rows (k := 6) cV_len hx)) ?_
    refine zF (step_enc rfl rfl rfl (cV_len _) rfl) ?_
    refine run_new rfl rfl (fun m => (by dsimp only [putTm, List.set])) ?_
    intro m9 H4 hm9 hl4 hb4 hold4
    refine run_store (v := .agg (cV ⟨.mk k5 n5 f5 l5, .mk k6 n6 f6 l6⟩)) rfl rfl rfl rfl rfl (cV_one _) (cV_len _) hb4 (cs' := cV ⟨.mk k5 n5 f5 l5, .mk k6 n6 f6 l6⟩) (splice_full (cV_len _).symm) (by dsimp only [putTm, List.set]) ?_
    intro H5 hl5 hb95 ho5
    have g1 := get_lt hb1
    have g2 := get_lt hb2
    have hold5 : ∀ q, q < H.length → H5[q]? = H[q]? := fun q hq => by rw [ho5 q (by omega), hold4 q (by omega)]
    have hb15 : H5[1]? = some (.box zero8) := by rw [hold5 1 g1]; exact hb1
    have hb25 : H5[2]? = some (.box [v, w, a1, a2, a3, b1, b2, b3]) := by rw [hold5 2 g2]; exact hb2
    have hpm5 : PosM H5 4 3 l := hpm.mono hold5
    have hrepv5 : Rep intV 1 H5 0 nvs v := hrepv.heap fun j hj => hold5 j (hrepv.lt hj).1
    have hrep5 := hrep.heap (H' := H5) fun j hj => hold5 j (hrep.lt hj).1
    have hca := (std2_fnH l 4 3 (.mk k5 n5 f5 l5) hxf.1 hxn.1.1 hxn.1.2 H5 hpm5).call (by decide) rfl (mapM_none (x := .bp 4 0) (by simp) rfl)
    have hcb := (std2_fnH l 4 3 (.mk k6 n6 f6 l6) hxf.2 hxn.2.1 hxn.2.2 H5 hpm5).call (by decide) rfl (mapM_none (x := .bp 4 0) (by simp) rfl)
    generalize renT l (.mk k5 n5 f5 l5) = rc at hmt hca
    generalize renT l (.mk k6 n6 f6 l6) = rd at hmt hcb
    obtain ⟨k7, n7, f7, l7⟩ := rc
    obtain ⟨k8, n8, f8, l8⟩ := rd
    repeat (first | refine zL hb25 ?_ | refine zM hb25 ?_ | refine zO hb25 ?_ | refine zL hb95 ?_ | refine zM hb95 ?_ | refine zO hb95 ?_ | refine zE ?_ | refine zP ?_ | refine zD ?_ | refine zQ ?_ | refine zR ?_ | refine zS ?_ | refine wN ?_ | refine wM ?_ | refine wR ?_ | refine wS ?_ | refine wB ?_ | refine wG ?_ | refine wE ?_ | refine wY ?_ | refine wZ ?_ | refine wK ?_ | refine wT ?_ | refine wX ?_)
    refine zH (step_call (ev_callv rfl rfl rfl rfl rfl rfl) rfl hca) ?_
    repeat (first | refine zL hb25 ?_ | refine zM hb25 ?_ | refine zO hb25 ?_ | refine zL hb95 ?_ | refine zM hb95 ?_ | refine zO hb95 ?_ | refine zE ?_ | refine zP ?_ | refine zD ?_ | refine zQ ?_ | refine zR ?_ | refine zS ?_ | refine wN ?_ | refine wM ?_ | refine wR ?_ | refine wS ?_ | refine wB ?_ | refine wG ?_ | refine wE ?_ | refine wY ?_ | refine wZ ?_ | refine wK ?_ | refine wT ?_ | refine wX ?_)
    refine zH (step_call (ev_callv rfl rfl rfl rfl rfl rfl) rfl hcb) ?_
    repeat (first | refine zL hb25 ?_ | refine zM hb25 ?_ | refine zO hb25 ?_ | refine zL hb95 ?_ | refine zM hb95 ?_ | refine zO hb95 ?_ | refine zE ?_ | refine zP ?_ | refine zD ?_ | refine zQ ?_ | refine zR ?_ | refine zS ?_ | refine wN ?_ | refine wM ?_ | refine wR ?_ | refine wS ?_ | refine wB ?_ | refine wG ?_ | refine wE ?_ | refine wY ?_ | refine wZ ?_ | refine wK ?_ | refine wT ?_ | refine wX ?_)
    obtain ⟨D, w', H', c, hD, hr, ha⟩ := append_rep (fid := 113) (dst := 65) (tt := 59) cV_len (by decide) cV_one rfl rfl rfl rfl (by decide) rfl hrep5 [⟨.mk k7 n7 f7 l7, .mk k8 n8 f8 l8⟩] (by simp) (by simp; omega) (Nat.zero_le _) true 1 rfl
    refine zH (step_append rfl rfl rfl rfl hD (hr _ rfl)) ?_
    repeat (first | refine zL hb15 ?_ | refine zM hb15 ?_ | refine zO hb15 ?_ | refine zE ?_ | refine zP ?_ | refine zD ?_ | refine zQ ?_ | refine zR ?_ | refine zS ?_ | refine wN ?_ | refine wM ?_ | refine wR ?_ | refine wS ?_ | refine wB ?_ | refine wG ?_ | refine wE ?_ | refine wY ?_ | refine wZ ?_ | refine wK ?_ | refine wT ?_ | refine wX ?_)
    have hb2' : H'[2]? = some (.box [v, w, a1, a2, a3, b1, b2, b3]) := by rw [ha.same 2 (get_lt hb25) (hrep5.apart hb25)]; exact hb25
    refine runR_store (k := 2) rfl rfl rfl rfl rfl ha.rep.solid (by rw [ha.rep.cells]; rfl) hb2' (cs' := [v, w', a1, a2, a3, b1, b2, b3]) (by rw [ha.rep.cells]; rfl) (by dsimp only [putTm, List.set]) ?_
    intro H8 hl8 hb28 ho8
    repeat (first | refine zL hb15 ?_ | refine zM hb15 ?_ | refine zO hb15 ?_ | refine zE ?_ | refine zP ?_ | refine zD ?_ | refine zQ ?_ | refine zR ?_ | refine zS ?_ | refine wN ?_ | refine wM ?_ | refine wR ?_ | refine wS ?_ | refine wB ?_ | refine wG ?_ | refine wE ?_ | refine wY ?_ | refine wZ ?_ | refine wK ?_ | refine wT ?_ | refine wX ?_)
    rw [wrap_succ (by omega)]
    have hv1 : Rep intV 1 H' 0 nvs v := hrepv5.heap fun j hj => ha.same j (hrepv5.lt hj).1 (fun e => hap j e hj)
    have hne : ∀ (q : Nat) (cs : List V), q ≠ 2 → H5[q]? = some (.box cs) → H8[q]? = H5[q]? := fun q cs h2 hq => by
      rw [ho8 q h2, ha.same q (get_lt hq) (hrep5.apart hq)]
    refine ⟨(i + 1, .bp m9 0), _, rfl, rfl, ⟨hlt, ?_, ?_, w', hb28, ?_, ?_, ?_⟩, (by first | omega | (dsimp only; omega))⟩
    · rw [hne 1 _ (by decide) hb15]; exact hb15
    · refine hpm5.two (hne 4 _ (by decide) hpm5.box) ?_
      rw [ho8 3 (by decide), ha.same 3 (get_lt hpm5.map) (fun e => by obtain ⟨_, _, _, _, hk⟩ := hrep5.kind e; rw [hpm5.map] at hk; cases hk)]
    · exact hv1.heap fun j hj => ho8 j (by rintro rfl; exact hv1.apart hb2' hj)
    · rw [hmt]
      exact ha.rep.heap fun j hj => ho8 j (by rintro rfl; exact ha.rep.apart hb2' hj)
    · intro j hj hv
      rcases ha.nums with h | ⟨m, h, hm⟩
      · exact hap j (by rw [← h]; exact hj) hv
      · rw [h] at hj; cases hj
        have := (hrepv5.lt hv).1
        omega
  refine wp_no rfl (decide_eq_false (by omega)) ?_
  have hil : i = cs.length := by omega
  subst hil
  rw [List.take_length] at hrep
  generalize cs.map (fun c => (⟨renT l c.a, renT l c.b⟩ : C2)) = ncs at *
  repeat (first | refine zL hb2 ?_ | refine zM hb2 ?_ | refine zO hb2 ?_ | refine zE ?_ | refine zP ?_ | refine zD ?_ | refine zQ ?_ | refine zR ?_ | refine zS ?_ | refine wN ?_ | refine wM ?_ | refine wR ?_ | refine wS ?_ | refine wB ?_ | refine wG ?_ | refine wD ?_ | refine wY ?_ | refine wZ ?_ | refine wK ?_ | refine wT ?_ | refine wX ?_)
  have hall : (V.agg [v, w, a1, a2, a3, b1, b2, b3]).solid = true := by
    show (v.one && (w.one && [a1, a2, a3, b1, b2, b3].all V.one)) = true
    rw [hrepv.one, hrep.one, hone]; rfl
  refine run_store (k := 1) (v := .agg [v, w, a1, a2, a3, b1, b2, b3]) rfl rfl rfl rfl rfl hall rfl hb1 (cs' := [v, w, a1, a2, a3, b1, b2, b3]) rfl (by dsimp only [putTm, List.set]) ?_
  intro H2 hl2 hs2 ho2
  repeat (first | refine zE ?_ | refine zP ?_ | refine zD ?_ | refine zQ ?_ | refine zR ?_ | refine zS ?_ | refine wN ?_ | refine wM ?_ | refine wR ?_ | refine wS ?_ | refine wB ?_ | refine wG ?_ | refine wD ?_ | refine wY ?_ | refine wZ ?_ | refine wK ?_ | refine wT ?_ | refine wX ?_)
  refine ⟨.inr rfl, .agg [v, w, a1, a2, a3, b1, b2, b3], results_cell rfl rfl rfl hs2 rfl, ?_⟩
  have hv2 : Rep intV 1 H2 0 nvs v := hrepv.heap fun j hj => ho2 j (by rintro rfl; exact hrepv.apart hb1 hj)
  have hw2 : Rep cV 6 H2 0 ncs w := hrep.heap fun j hj => ho2 j (by rintro rfl; exact hrep.apart hb1 hj)
  exact strip_agg (strips_cons (hv2.strips intV_len intV_flat) (strips_cons (hw2.strips cV_len cV_flat) (strips_flat hflat)))
theorem F37 : cfg.F 37 = some Tryz.f37 := rfl
set_option maxHeartbeats 8000000 in
theorem standardP_fn (s : S) (e : Eq2) (hs : s.Fit) (he : e.Fit) (hr : e.Rng) : Fn 37 [.agg (sV s), .agg (eV e)] (stdV s e) := by
  unfold stdV
  obtain ⟨vs, fv, cs, fc, ⟨k1, n1, f1, l1⟩, ⟨k2, n2, f2, l2⟩⟩ := e
  refine Fn.of_wp F37 rfl ?_
  simp only [show Tryz.f37.ntmps = 18 from rfl, List.length_cons, List.length_nil, List.replicate, List.cons_append, List.nil_append]
  repeat (first | refine zE ?_ | refine zP ?_ | refine zD ?_ | refine zQ ?_ | refine zR ?_ | refine zS ?_ | refine wN ?_ | refine wM ?_ | refine wR ?_ | refine wS ?_ | refine wB ?_ | refine wG ?_ | refine wD ?_ | refine wY ?_ | refine wZ ?_ | refine wK ?_ | refine wT ?_ | refine wX ?_)
  refine zF (step_call rfl rfl ((check_fn s hs).cl)) ?_
  cases h1 : sigB s
  · repeat (first | refine zE ?_ | refine zP ?_ | refine zD ?_ | refine zQ ?_ | refine zR ?_ | refine zS ?_ | refine wN ?_ | refine wM ?_ | refine wR ?_ | refine wS ?_ | refine wB ?_ | refine wG ?_ | refine wD ?_ | refine wY ?_ | refine wZ ?_ | refine wK ?_ | refine wT ?_ | refine wX ?_)
    exact ⟨.inr rfl, .tup [.agg zero8, .int .i64 5], rfl, strip_flat rfl⟩
  repeat (first | refine zE ?_ | refine zP ?_ | refine zD ?_ | refine zQ ?_ | refine zR ?_ | refine zS ?_ | refine wN ?_ | refine wM ?_ | refine wR ?_ | refine wS ?_ | refine wB ?_ | refine wG ?_ | refine wD ?_ | refine wY ?_ | refine wZ ?_ | refine wK ?_ | refine wT ?_ | refine wX ?_)
  refine zF (step_call rfl rfl ((equation_fn s ⟨vs, fv, cs, fc, .mk k1 n1 f1 l1, .mk k2 n2 f2 l2⟩ hs he hr h1).cl)) ?_
  cases h2 : eqnB s ⟨vs, fv, cs, fc, .mk k1 n1 f1 l1, .mk k2 n2 f2 l2⟩
  · repeat (first | refine zE ?_ | refine zP ?_ | refine zD ?_ | refine zQ ?_ | refine zR ?_ | refine zS ?_ | refine wN ?_ | refine wM ?_ | refine wR ?_ | refine wS ?_ | refine wB ?_ | refine wG ?_ | refine wD ?_ | refine wY ?_ | refine wZ ?_ | refine wK ?_ | refine wT ?_ | refine wX ?_)
    exact ⟨.inr rfl, .tup [.agg zero8, .int .i64 5], rfl, strip_flat rfl⟩
  repeat (first | refine zE ?_ | refine zP ?_ | refine zD ?_ | refine zQ ?_ | refine zR ?_ | refine zS ?_ | refine wN ?_ | refine wM ?_ | refine wR ?_ | refine wS ?_ | refine wB ?_ | refine wG ?_ | refine wD ?_ | refine wY ?_ | refine wZ ?_ | refine wK ?_ | refine wT ?_ | refine wX ?_)
  refine zF (step_call rfl rfl ((stdP_fn s ⟨vs, fv, cs, fc, .mk k1 n1 f1 l1, .mk k2 n2 f2 l2⟩ he hr h1 h2).cl)) ?_
  generalize stdE ⟨vs, fv, cs, fc, .mk k1 n1 f1 l1, .mk k2 n2 f2 l2⟩ = e2
  refine run_store rfl rfl rfl rfl rfl (eV_one e2) (eV_len e2) (cs := zero8) rfl (cs' := eV e2) (splice_full (eV_len e2).symm) (by dsimp only [putTm, List.set]) ?_
  intro H2 hl2 hs2 ho2
  repeat (first | refine zE ?_ | refine zP ?_ | refine zD ?_ | refine zQ ?_ | refine zR ?_ | refine zS ?_ | refine wN ?_ | refine wM ?_ | refine wR ?_ | refine wS ?_ | refine wB ?_ | refine wG ?_ | refine wD ?_ | refine wY ?_ | refine wZ ?_ | refine wK ?_ | refine wT ?_ | refine wX ?_)
  exact ⟨.inr rfl, .tup [.agg (eV e2), .int .i64 0], results_cell_tmp rfl rfl rfl hs2 (part_all ti64 (eV e2) rfl (eV_len e2)) rfl, strip_flat (by simp [V.flat, V.flats, flat_eV])⟩
end Go.Av
