/- Contracts over the evaluator: equations made standard. Conditions: none beyond the hypotheses of each theorem. -/
import Derived.Test.YtdjgjnahfekdhaaGreatDoorT6
import Derived.Test.YtdjgjnahfekdhaaGreatDoorS1
set_option linter.unusedSectionVars false
set_option linter.unusedVariables false
set_option linter.unusedSimpArgs false
namespace Go.Av
open Go.Proofs
set_option maxRecDepth 100000
def stdE (e : Eq2) : Eq2 :=
  let l := varsA [e.a]
  ⟨l.map (fun v => e.vars.getD v.toNat 0), (l.map (fun v => e.vars.getD v.toNat 0)).isEmpty, e.conds.map (fun c => ⟨renT l c.a, renT l c.b⟩), (e.conds.map (fun c => (⟨renT l c.a, renT l c.b⟩ : C2))).isEmpty, renT l e.a, renT l e.b⟩
structure StdOK (e : Eq2) : Prop where
  fit : e.Fit
  a : nodeT e.a = true
  b : nodeT e.b = true
  conds : e.conds.length ≤ 8
  cond : ∀ (j : Nat) c, e.conds[j]? = some c → nodeT c.a = true ∧ nodeT c.b = true
  vars : ∀ v, v ∈ varsA [e.a] → 0 ≤ v ∧ v < e.vars.length
theorem cV_one (c : C2) : (cV c).all V.one = true := by rw [cV, List.all_append, tV_one, tV_one]; rfl
theorem cV_flat (c : C2) : V.flats (cV c) = true := flat_cV c
theorem F116 : cfg.F 116 = some Tryz.f116 := rfl
set_option maxHeartbeats 16000000 in
theorem std5_fn (e : Eq2) (he : StdOK e) : Fn 116 [.agg (eV e)] (.agg (eV (stdE e))) := by
  obtain ⟨vs, fv, cs, fc, ⟨k1, n1, f1, l1⟩, ⟨k2, n2, f2, l2⟩⟩ := e
  unfold stdE
  dsimp only
  have hef := he.fit
  have haf := hef.a
  have hbf := hef.b
  have hcf := hef.cond
  have han := he.a
  have hbn := he.b
  have hcl := he.conds
  have hcn := he.cond
  have hvi := he.vars
  dsimp only at haf hbf hcf han hbn hcl hcn hvi
  have hvl := varsA_len [.mk k1 n1 f1 l1] (by simp)
  refine Fn.of_wp F116 rfl ?_
  simp only [show Tryz.f116.ntmps = 69 from rfl, List.length_cons, List.length_nil, List.replicate, List.cons_append, List.nil_append]
  repeat (first | refine zE ?_ | refine zP ?_ | refine zD ?_ | refine zQ ?_ | refine zR ?_ | refine zS ?_ | refine wN ?_ | refine wM ?_ | refine wR ?_ | refine wS ?_ | refine wB ?_ | refine wG ?_ | refine wD ?_ | refine wY ?_ | refine wZ ?_ | refine wK ?_ | refine wT ?_ | refine wX ?_)
  refine zF (step_call rfl rfl ((vars4_fn [.mk k1 n1 f1 l1] true (by simp) (fun x hx => by simp at hx; subst hx; exact haf)).call (by decide) rfl (by simp [V.flats, V.flat, flat_tV, flat_sV, flat_ints, flat_oV, flat_eV, flat_yV, flat_strs, flat_slOf, intV_flat, flats_rows flat_oV, flats_rows flat_eV, flats_rows flat_cV, flats_rows flat_tV]) _)) ?_
  generalize varsA [.mk k1 n1 f1 l1] = l at *
  repeat (first | refine zE ?_ | refine zP ?_ | refine zD ?_ | refine zQ ?_ | refine zR ?_ | refine zS ?_ | refine zI ?_ | refine zJ ?_ | refine zA ?_ | refine wJ ?_ | refine wN ?_ | refine wM ?_ | refine wR ?_ | refine wS ?_ | refine wB ?_ | refine wG ?_ | refine wI ?_ | refine wY ?_ | refine wZ ?_ | refine wK ?_ | refine wT ?_ | refine wX ?_)
  refine runI_next rfl (step_call rfl rfl ((renum_fn l l.isEmpty (by omega) (.mk k1 n1 f1 l1) haf han).call (by decide) rfl (by simp [V.flats, V.flat, flat_tV, flat_sV, flat_ints, flat_oV, flat_eV, flat_yV, flat_strs, flat_slOf, intV_flat, flats_rows flat_oV, flats_rows flat_eV, flats_rows flat_cV, flats_rows flat_tV]) _)) rfl (by dsimp only [putTm, List.set]) ?_
  repeat (first | refine zE ?_ | refine zP ?_ | refine zD ?_ | refine zQ ?_ | refine zR ?_ | refine zS ?_ | refine zI ?_ | refine zJ ?_ | refine zA ?_ | refine wJ ?_ | refine wN ?_ | refine wM ?_ | refine wR ?_ | refine wS ?_ | refine wB ?_ | refine wG ?_ | refine wI ?_ | refine wY ?_ | refine wZ ?_ | refine wK ?_ | refine wT ?_ | refine wX ?_)
  refine runI_next rfl (step_call rfl rfl ((renum_fn l l.isEmpty (by omega) (.mk k2 n2 f2 l2) hbf hbn).call (by decide) rfl (by simp [V.flats, V.flat, flat_tV, flat_sV, flat_ints, flat_oV, flat_eV, flat_yV, flat_strs, flat_slOf, intV_flat, flats_rows flat_oV, flats_rows flat_eV, flats_rows flat_cV, flats_rows flat_tV]) _)) rfl (by dsimp only [putTm, List.set]) ?_
  generalize renT l (.mk k1 n1 f1 l1) = ra
  generalize renT l (.mk k2 n2 f2 l2) = rb
  obtain ⟨k3, n3, f3, l3⟩ := ra
  obtain ⟨k4, n4, f4, l4⟩ := rb
  repeat (first | refine zE ?_ | refine zP ?_ | refine zD ?_ | refine zQ ?_ | refine zR ?_ | refine zS ?_ | refine zI ?_ | refine zJ ?_ | refine zA ?_ | refine wJ ?_ | refine wN ?_ | refine wM ?_ | refine wR ?_ | refine wS ?_ | refine wB ?_ | refine wG ?_ | refine wI ?_ | refine wY ?_ | refine wZ ?_ | refine wK ?_ | refine wT ?_ | refine wX ?_)
  refine wp_loop2 63 (fun i : Nat => [.agg (eV ⟨vs, fv, cs, fc, .mk k1 n1 f1 l1, .mk k2 n2 f2 l2⟩), .bp 0 0, .bp 1 0, slOf intV l, .bp 2 0, .int .i64 (i : Int)]) (fun i H => i ≤ l.length ∧ H[0]? = some (.box (eV ⟨vs, fv, cs, fc, .mk k1 n1 f1 l1, .mk k2 n2 f2 l2⟩)) ∧ H[1]? = some (.box [.sl 0 true [], .sl 0 true [], .int .i64 0, .int .i64 0, .sl 0 true [], .int .i64 0, .int .i64 0, .sl 0 true []]) ∧ ∃ v, H[2]? = some (.box ([v, .sl 0 true []] ++ (tV (.mk k3 n3 f3 l3) ++ tV (.mk k4 n4 f4 l4)))) ∧ Rep intV 1 H 0 ((l.take i).map (fun v => vs.getD v.toNat 0)) v) (fun i => l.length - i) 0 ⟨_, rfl, rfl, Nat.zero_le _, rfl, rfl, _, rfl, Rep.nil⟩ ?_
  rintro i H d u ⟨hi, hb0, hb1, v, hb2, hrep⟩
  (rw [show (List.range 63).map u = [u 0, u 1, u 2, u 3, u 4, u 5, u 6, u 7, u 8, u 9, u 10, u 11, u 12, u 13, u 14, u 15, u 16, u 17, u 18, u 19, u 20, u 21, u 22, u 23, u 24, u 25, u 26, u 27, u 28, u 29, u 30, u 31, u 32, u 33, u 34, u 35, u 36, u 37, u 38, u 39, u 40, u 41, u 42, u 43, u 44, u 45, u 46, u 47, u 48, u 49, u 50, u 51, u 52, u 53, u 54, u 55, u 56, u 57, u 58, u 59, u 60, u 61, u 62] from rfl]; simp only [List.cons_append, List.nil_append])
  repeat (first | refine zE ?_ | refine zP ?_ | refine zD ?_ | refine zQ ?_ | refine zR ?_ | refine zS ?_ | refine wN ?_ | refine wM ?_ | refine wR ?_ | refine wS ?_ | refine wB ?_ | refine wG ?_ | refine wD ?_ | refine wY ?_ | refine wZ ?_ | refine wK ?_ | refine wT ?_ | refine wX ?_)
  by_cases hlt : i < l.length
  · refine wp_yes rfl (decide_eq_true (by omega)) ?_
    obtain ⟨x, hx⟩ := get_of hlt
    have hxi := hvi x (List.mem_of_getElem? hx)
    obtain ⟨m, rfl⟩ : ∃ m : Nat, x = m := ⟨x.toNat, by omega⟩
    obtain ⟨y, hy⟩ := get_of (show m < vs.length by omega)
    have hmt := map_take (fun v => vs.getD v.toNat 0) hx
    rw [show vs.getD ((m : Int)).toNat 0 = y by rw [Int.toNat_natCast, List.getD_eq_getElem?_getD, hy]; rfl] at hmt
    repeat (first | refine zL hb0 ?_ | refine zM hb0 ?_ | refine zO hb0 ?_ | refine zL hb2 ?_ | refine zM hb2 ?_ | refine zO hb2 ?_ | refine zE ?_ | refine zP ?_ | refine zD ?_ | refine zQ ?_ | refine zR ?_ | refine zS ?_ | refine wN ?_ | refine wM ?_ | refine wR ?_ | refine wS ?_ | refine wB ?_ | refine wG ?_ | refine wE ?_ | refine wY ?_ | refine wZ ?_ | refine wK ?_ | refine wT ?_ | refine wX ?_)
    refine zH (step_idx rfl rfl rfl rfl rfl rfl ⟨by omega, by omega⟩ (drop_rows (k := 1) (fun _ => rfl) hx)) ?_
    repeat (first | refine zL hb0 ?_ | refine zM hb0 ?_ | refine zO hb0 ?_ | refine zL hb2 ?_ | refine zM hb2 ?_ | refine zO hb2 ?_ | refine zE ?_ | refine zP ?_ | refine zD ?_ | refine zQ ?_ | refine zR ?_ | refine zS ?_ | refine wN ?_ | refine wM ?_ | refine wR ?_ | refine wS ?_ | refine wB ?_ | refine wG ?_ | refine wE ?_ | refine wY ?_ | refine wZ ?_ | refine wK ?_ | refine wT ?_ | refine wX ?_)
    refine zH (step_idx rfl rfl rfl rfl rfl rfl ⟨by omega, by omega⟩ (drop_rows (k := 1) (fun _ => rfl) hy)) ?_
    repeat (first | refine zL hb0 ?_ | refine zM hb0 ?_ | refine zO hb0 ?_ | refine zL hb2 ?_ | refine zM hb2 ?_ | refine zO hb2 ?_ | refine zE ?_ | refine zP ?_ | refine zD ?_ | refine zQ ?_ | refine zR ?_ | refine zS ?_ | refine wN ?_ | refine wM ?_ | refine wR ?_ | refine wS ?_ | refine wB ?_ | refine wG ?_ | refine wE ?_ | refine wY ?_ | refine wZ ?_ | refine wK ?_ | refine wT ?_ | refine wX ?_)
    obtain ⟨D, v', H', c, hD, hr, ha⟩ := append_rep (fid := 116) (dst := 37) (tt := 27) intV_len (by decide) intV_one rfl rfl rfl rfl (by decide) rfl hrep [y] (by simp) (by simp; omega) (Nat.zero_le _) true 1 rfl
    refine zH (step_append rfl rfl rfl rfl hD (hr _ rfl)) ?_
    repeat (first | refine zL hb0 ?_ | refine zM hb0 ?_ | refine zO hb0 ?_ | refine zE ?_ | refine zP ?_ | refine zD ?_ | refine zQ ?_ | refine zR ?_ | refine zS ?_ | refine wN ?_ | refine wM ?_ | refine wR ?_ | refine wS ?_ | refine wB ?_ | refine wG ?_ | refine wE ?_ | refine wY ?_ | refine wZ ?_ | refine wK ?_ | refine wT ?_ | refine wX ?_)
    have hb2' : H'[2]? = some (.box ([v, .sl 0 true []] ++ (tV (.mk k3 n3 f3 l3) ++ tV (.mk k4 n4 f4 l4)))) := by rw [ha.same 2 (get_lt hb2) (hrep.apart hb2)]; exact hb2
    refine runR_store rfl rfl rfl rfl rfl ha.rep.solid (by rw [ha.rep.cells]; rfl) hb2' (cs' := [v', .sl 0 true []] ++ (tV (.mk k3 n3 f3 l3) ++ tV (.mk k4 n4 f4 l4))) (by rw [ha.rep.cells]; rfl) (by dsimp only [putTm, List.set]) ?_
    intro H2 hl2 hs2 ho2
    repeat (first | refine zL hb0 ?_ | refine zM hb0 ?_ | refine zO hb0 ?_ | refine zE ?_ | refine zP ?_ | refine zD ?_ | refine zQ ?_ | refine zR ?_ | refine zS ?_ | refine wN ?_ | refine wM ?_ | refine wR ?_ | refine wS ?_ | refine wB ?_ | refine wG ?_ | refine wE ?_ | refine wY ?_ | refine wZ ?_ | refine wK ?_ | refine wT ?_ | refine wX ?_)
    rw [wrap_succ (by omega)]
    refine ⟨i + 1, _, rfl, rfl, ⟨hlt, ?_, ?_, v', hs2, ?_⟩, (by first | omega | (dsimp only; omega))⟩
    · rw [ho2 0 (by decide), ha.same 0 (get_lt hb0) (hrep.apart hb0)]; exact hb0
    · rw [ho2 1 (by decide), ha.same 1 (get_lt hb1) (hrep.apart hb1)]; exact hb1
    · rw [hmt]
      exact ha.rep.heap fun j hj => ho2 j (by rintro rfl; exact ha.rep.apart hb2' hj)
  refine wp_no rfl (decide_eq_false (by omega)) ?_
  have hil : i = l.length := by omega
  subst hil
  rw [List.take_length] at hrep
  generalize hvars : l.map (fun v => vs.getD v.toNat 0) = nvs at *
  have hnl : nvs.length = l.length := by rw [← hvars]; simp
  repeat (first | refine zE ?_ | refine zP ?_ | refine zD ?_ | refine zQ ?_ | refine zR ?_ | refine zS ?_ | refine wN ?_ | refine wM ?_ | refine wR ?_ | refine wS ?_ | refine wB ?_ | refine wG ?_ | refine wD ?_ | refine wY ?_ | refine wZ ?_ | refine wK ?_ | refine wT ?_ | refine wX ?_)
  refine wp_loop2 62 (fun i : Nat => [.agg (eV ⟨vs, fv, cs, fc, .mk k1 n1 f1 l1, .mk k2 n2 f2 l2⟩), .bp 0 0, .bp 1 0, slOf intV l, .bp 2 0, .int .i64 (l.length : Int), .int .i64 (i : Int)]) (fun i H => i ≤ cs.length ∧ H[0]? = some (.box (eV ⟨vs, fv, cs, fc, .mk k1 n1 f1 l1, .mk k2 n2 f2 l2⟩)) ∧ H[1]? = some (.box [.sl 0 true [], .sl 0 true [], .int .i64 0, .int .i64 0, .sl 0 true [], .int .i64 0, .int .i64 0, .sl 0 true []]) ∧ ∃ w, H[2]? = some (.box ([v, w] ++ (tV (.mk k3 n3 f3 l3) ++ tV (.mk k4 n4 f4 l4)))) ∧ Rep intV 1 H 0 nvs v ∧ Rep cV 6 H 0 ((cs.take i).map (fun c => (⟨renT l c.a, renT l c.b⟩ : C2))) w ∧ (∀ j, num w = some j → num v ≠ some j)) (fun i => cs.length - i) 0 ⟨_, rfl, rfl, Nat.zero_le _, hb0, hb1, _, hb2, hrep, Rep.nil, fun j hj => by cases hj⟩ ?_
  rintro i H d u2 ⟨hi, hb0, hb1, w, hb2, hrepv, hrep, hap⟩
  rw [show (List.range 62).map u2 = [u2 0, u2 1, u2 2, u2 3, u2 4, u2 5, u2 6, u2 7, u2 8, u2 9, u2 10, u2 11, u2 12, u2 13, u2 14, u2 15, u2 16, u2 17, u2 18, u2 19, u2 20, u2 21, u2 22, u2 23, u2 24, u2 25, u2 26, u2 27, u2 28, u2 29, u2 30, u2 31, u2 32, u2 33, u2 34, u2 35, u2 36, u2 37, u2 38, u2 39, u2 40, u2 41, u2 42, u2 43, u2 44, u2 45, u2 46, u2 47, u2 48, u2 49, u2 50, u2 51, u2 52, u2 53, u2 54, u2 55, u2 56, u2 57, u2 58, u2 59, u2 60, u2 61] from rfl]; simp only [List.cons_append, List.nil_append]
  repeat (first | refine zL hb0 ?_ | refine zM hb0 ?_ | refine zO hb0 ?_ | refine zE ?_ | refine zP ?_ | refine zD ?_ | refine zQ ?_ | refine zR ?_ | refine zS ?_ | refine wN ?_ | refine wM ?_ | refine wR ?_ | refine wS ?_ | refine wB ?_ | refine wG ?_ | refine wD ?_ | refine wY ?_ | refine wZ ?_ | refine wK ?_ | refine wT ?_ | refine wX ?_)
  by_cases hlt : i < cs.length
  · refine wp_yes rfl (decide_eq_true (by omega)) ?_
    obtain ⟨x, hx⟩ := get_of hlt
    have hxf := hcf i x hx
    have hxn := hcn i x hx
    have hmt := map_take (fun c => (⟨renT l c.a, renT l c.b⟩ : C2)) hx
    repeat (first | refine zL hb0 ?_ | refine zM hb0 ?_ | refine zO hb0 ?_ | refine zL hb2 ?_ | refine zM hb2 ?_ | refine zO hb2 ?_ | refine zE ?_ | refine zP ?_ | refine zD ?_ | refine zQ ?_ | refine zR ?_ | refine zS ?_ | refine wN ?_ | refine wM ?_ | refine wR ?_ | refine wS ?_ | refine wB ?_ | refine wG ?_ | refine wE ?_ | refine wY ?_ | refine wZ ?_ | refine wK ?_ | refine wT ?_ | refine wX ?_)
    refine zH (step_idx rfl rfl rfl rfl rfl rfl ⟨by omega, by omega⟩ (drop_conds hx)) ?_
    repeat (first | refine zL hb0 ?_ | refine zM hb0 ?_ | refine zO hb0 ?_ | refine zL hb2 ?_ | refine zM hb2 ?_ | refine zO hb2 ?_ | refine zE ?_ | refine zP ?_ | refine zD ?_ | refine zQ ?_ | refine zR ?_ | refine zS ?_ | refine wN ?_ | refine wM ?_ | refine wR ?_ | refine wS ?_ | refine wB ?_ | refine wG ?_ | refine wE ?_ | refine wY ?_ | refine wZ ?_ | refine wK ?_ | refine wT ?_ | refine wX ?_)
    refine zH (step_enc2 rfl rfl rfl (tV_len x.a) rfl rfl) ?_
    repeat (first | refine zL hb0 ?_ | refine zM hb0 ?_ | refine zO hb0 ?_ | refine zL hb2 ?_ | refine zM hb2 ?_ | refine zO hb2 ?_ | refine zE ?_ | refine zP ?_ | refine zD ?_ | refine zQ ?_ | refine zR ?_ | refine zS ?_ | refine wN ?_ | refine wM ?_ | refine wR ?_ | refine wS ?_ | refine wB ?_ | refine wG ?_ | refine wE ?_ | refine wY ?_ | refine wZ ?_ | refine wK ?_ | refine wT ?_ | refine wX ?_)
    refine zH (step_call rfl rfl ((renum_fn l l.isEmpty (by omega) x.a hxf.1 hxn.1).call (by decide) rfl (by simp [V.flats, V.flat, flat_tV, flat_sV, flat_ints, flat_oV, flat_eV, flat_yV, flat_strs, flat_slOf, intV_flat, flats_rows flat_oV, flats_rows flat_eV, flats_rows flat_cV, flats_rows flat_tV]) _)) ?_
    repeat (first | refine zL hb0 ?_ | refine zM hb0 ?_ | refine zO hb0 ?_ | refine zL hb2 ?_ | refine zM hb2 ?_ | refine zO hb2 ?_ | refine zE ?_ | refine zP ?_ | refine zD ?_ | refine zQ ?_ | refine zR ?_ | refine zS ?_ | refine wN ?_ | refine wM ?_ | refine wR ?_ | refine wS ?_ | refine wB ?_ | refine wG ?_ | refine wE ?_ | refine wY ?_ | refine wZ ?_ | refine wK ?_ | refine wT ?_ | refine wX ?_)
    refine zH (step_idx rfl rfl rfl rfl rfl rfl ⟨by omega, by omega⟩ (drop_conds hx)) ?_
    repeat (first | refine zL hb0 ?_ | refine zM hb0 ?_ | refine zO hb0 ?_ | refine zL hb2 ?_ | refine zM hb2 ?_ | refine zO hb2 ?_ | refine zE ?_ | refine zP ?_ | refine zD ?_ | refine zQ ?_ | refine zR ?_ | refine zS ?_ | refine wN ?_ | refine wM ?_ | refine wR ?_ | refine wS ?_ | refine wB ?_ | refine wG ?_ | refine wE ?_ | refine wY ?_ | refine wZ ?_ | refine wK ?_ | refine wT ?_ | refine wX ?_)
    refine zH (step_enc2 rfl rfl rfl (tV_len x.b) rfl (drop_tV _ _)) ?_
    repeat (first | refine zL hb0 ?_ | refine zM hb0 ?_ | refine zO hb0 ?_ | refine zL hb2 ?_ | refine zM hb2 ?_ | refine zO hb2 ?_ | refine zE ?_ | refine zP ?_ | refine zD ?_ | refine zQ ?_ | refine zR ?_ | refine zS ?_ | refine wN ?_ | refine wM ?_ | refine wR ?_ | refine wS ?_ | refine wB ?_ | refine wG ?_ | refine wE ?_ | refine wY ?_ | refine wZ ?_ | refine wK ?_ | refine wT ?_ | refine wX ?_)
    refine zH (step_call rfl rfl ((renum_fn l l.isEmpty (by omega) x.b hxf.2 hxn.2).call (by decide) rfl (by simp [V.flats, V.flat, flat_tV, flat_sV, flat_ints, flat_oV, flat_eV, flat_yV, flat_strs, flat_slOf, intV_flat, flats_rows flat_oV, flats_rows flat_eV, flats_rows flat_cV, flats_rows flat_tV]) _)) ?_
    generalize renT l x.a = ra at *
    generalize renT l x.b = rb at *
    obtain ⟨k5, n5, f5, l5⟩ := ra
    obtain ⟨k6, n6, f6, l6⟩ := rb
    repeat (first | refine zL hb0 ?_ | refine zM hb0 ?_ | refine zO hb0 ?_ | refine zL hb2 ?_ | refine zM hb2 ?_ | refine zO hb2 ?_ | refine zE ?_ | refine zP ?_ | refine zD ?_ | refine zQ ?_ | refine zR ?_ | refine zS ?_ | refine wN ?_ | refine wM ?_ | refine wR ?_ | refine wS ?_ | refine wB ?_ | refine wG ?_ | refine wE ?_ | refine wY ?_ | refine wZ ?_ | refine wK ?_ | refine wT ?_ | refine wX ?_)
    obtain ⟨D, v', H', c, hD, hr, ha⟩ := append_rep (fid := 116) (dst := 66) (tt := 59) cV_len (by decide) cV_one rfl rfl rfl rfl (by decide) rfl hrep [⟨.mk k5 n5 f5 l5, .mk k6 n6 f6 l6⟩] (by simp) (by simp; omega) (Nat.zero_le _) true 1 rfl
    refine zH (step_append rfl rfl rfl rfl hD (hr _ rfl)) ?_
    repeat (first | refine zL hb0 ?_ | refine zM hb0 ?_ | refine zO hb0 ?_ | refine zE ?_ | refine zP ?_ | refine zD ?_ | refine zQ ?_ | refine zR ?_ | refine zS ?_ | refine wN ?_ | refine wM ?_ | refine wR ?_ | refine wS ?_ | refine wB ?_ | refine wG ?_ | refine wE ?_ | refine wY ?_ | refine wZ ?_ | refine wK ?_ | refine wT ?_ | refine wX ?_)
    have hb2' : H'[2]? = some (.box ([v, w] ++ (tV (.mk k3 n3 f3 l3) ++ tV (.mk k4 n4 f4 l4)))) := by rw [ha.same 2 (get_lt hb2) (hrep.apart hb2)]; exact hb2
    refine runR_store rfl rfl rfl rfl rfl ha.rep.solid (by rw [ha.rep.cells]; rfl) hb2' (cs' := [v, v'] ++ (tV (.mk k3 n3 f3 l3) ++ tV (.mk k4 n4 f4 l4))) (by rw [ha.rep.cells]; rfl) (by dsimp only [putTm, List.set]) ?_
    intro H2 hl2 hs2 ho2
    repeat (first | refine zL hb0 ?_ | refine zM hb0 ?_ | refine zO hb0 ?_ | refine zE ?_ | refine zP ?_ | refine zD ?_ | refine zQ ?_ | refine zR ?_ | refine zS ?_ | refine wN ?_ | refine wM ?_ | refine wR ?_ | refine wS ?_ | refine wB ?_ | refine wG ?_ | refine wE ?_ | refine wY ?_ | refine wZ ?_ | refine wK ?_ | refine wT ?_ | refine wX ?_)
    rw [wrap_succ (by omega)]
    have hv1 : Rep intV 1 H' 0 nvs v := hrepv.heap fun j hj => ha.same j (hrepv.lt hj).1 (fun e => hap j e hj)
    refine ⟨i + 1, _, rfl, rfl, ⟨hlt, ?_, ?_, v', hs2, ?_, ?_, ?_⟩, (by first | omega | (dsimp only; omega))⟩
    · rw [ho2 0 (by decide), ha.same 0 (get_lt hb0) (hrep.apart hb0)]; exact hb0
    · rw [ho2 1 (by decide), ha.same 1 (get_lt hb1) (hrep.apart hb1)]; exact hb1
    · exact hv1.heap fun j hj => ho2 j (by rintro rfl; exact hv1.apart hb2' hj)
    · rw [hmt]
      exact ha.rep.heap fun j hj => ho2 j (by rintro rfl; exact ha.rep.apart hb2' hj)
    · intro j hj hv
      rcases ha.nums with h | ⟨m, h, hm⟩
      · exact hap j (by rw [← h]; exact hj) hv
      · rw [h] at hj; cases hj
        have := (hrepv.lt hv).1
        omega
  refine wp_no rfl (decide_eq_false (by omega)) ?_
  have hil : i = cs.length := by omega
  subst hil
  rw [List.take_length] at hrep
  generalize cs.map (fun c => (⟨renT l c.a, renT l c.b⟩ : C2)) = ncs at *
  repeat (first | refine zL hb2 ?_ | refine zM hb2 ?_ | refine zO hb2 ?_ | refine zE ?_ | refine zP ?_ | refine zD ?_ | refine zQ ?_ | refine zR ?_ | refine zS ?_ | refine wN ?_ | refine wM ?_ | refine wR ?_ | refine wS ?_ | refine wB ?_ | refine wG ?_ | refine wD ?_ | refine wY ?_ | refine wZ ?_ | refine wK ?_ | refine wT ?_ | refine wX ?_)
  refine run_store (v := .agg ([v, w] ++ (tV (.mk k3 n3 f3 l3) ++ tV (.mk k4 n4 f4 l4)))) rfl rfl rfl rfl rfl (by show (v.one && (w.one && (tV (.mk k3 n3 f3 l3) ++ tV (.mk k4 n4 f4 l4)).all V.one)) = true; rw [hrepv.one, hrep.one, List.all_append, tV_one, tV_one]; rfl) rfl hb1 (cs' := [v, w] ++ (tV (.mk k3 n3 f3 l3) ++ tV (.mk k4 n4 f4 l4))) rfl (by dsimp only [putTm, List.set]) ?_
  intro H2 hl2 hs2 ho2
  repeat (first | refine zE ?_ | refine zP ?_ | refine zD ?_ | refine zQ ?_ | refine zR ?_ | refine zS ?_ | refine wN ?_ | refine wM ?_ | refine wR ?_ | refine wS ?_ | refine wB ?_ | refine wG ?_ | refine wD ?_ | refine wY ?_ | refine wZ ?_ | refine wK ?_ | refine wT ?_ | refine wX ?_)
  refine ⟨.inr rfl, .agg ([v, w] ++ (tV (.mk k3 n3 f3 l3) ++ tV (.mk k4 n4 f4 l4))), results_cell rfl rfl rfl hs2 rfl, ?_⟩
  have hv2 : Rep intV 1 H2 0 nvs v := hrepv.heap fun j hj => ho2 j (by rintro rfl; exact hrepv.apart hb1 hj)
  have hw2 : Rep cV 6 H2 0 ncs w := hrep.heap fun j hj => ho2 j (by rintro rfl; exact hrep.apart hb1 hj)
  exact strip_agg (strips_cons (hv2.strips intV_len intV_flat) (strips_cons (hw2.strips cV_len cV_flat) (strips_flat (show V.flats (tV (.mk k3 n3 f3 l3) ++ tV (.mk k4 n4 f4 l4)) = true by rw [flats_append, flat_tV, flat_tV]; rfl))))
theorem eV_one (e : Eq2) : (eV e).all V.one = true := by
  show (true && (true && (tV e.a ++ tV e.b).all V.one)) = true
  rw [List.all_append, tV_one, tV_one]; rfl
def zero8 : List V := [.sl 0 true [], .sl 0 true [], .int .i64 0, .int .i64 0, .sl 0 true [], .int .i64 0, .int .i64 0, .sl 0 true []]
noncomputable def stdV (s : S) (e : Eq2) : V := if sigB s && eqnB s e then .tup [.agg (eV (stdE e)), .int .i64 0] else .tup [.agg zero8, .int .i64 5]
end Go.Av
namespace Go.Av
open Go.Proofs
set_option maxRecDepth 100000
mutual
theorem srt_vars (s : S) (vars : List Int) : ∀ (t : T) (out : List Int), nodeT t = true → (srt s vars t).2 = true → (∀ v, v ∈ out → 0 ≤ v ∧ v < (vars.length : Int)) → ∀ v, v ∈ varsT t out → 0 ≤ v ∧ v < (vars.length : Int)
  | .mk k n f l, out, hn, hs, ho, v, hv => by
    obtain ⟨hn0, hk, hk1, hl8, hch⟩ := nodeT_mk hn
    rw [srt] at hs
    rw [varsT] at hv
    split at hv
    · rename_i h1
      rw [if_pos h1] at hs
      split at hs
      · simp at hs
      · split at hv
        · exact ho v hv
        · rcases List.mem_append.1 hv with h | h
          · exact ho v h
          · simp at h; omega
    · rename_i h1
      rw [if_neg h1] at hs
      split at hs
      · simp at hs
      · split at hs
        · simp at hs
        · rename_i o _
          split at hs
          · split at hs
            · rename_i h5
              exact srtL_vars s vars l o.args out hch h5 ho v hv
            · simp at hs
          · simp at hs
theorem srtL_vars (s : S) (vars : List Int) : ∀ (l : List T) (ar : List Int) (out : List Int), (∀ x, x ∈ l → nodeT x = true) → srtL s vars l ar = true → (∀ v, v ∈ out → 0 ≤ v ∧ v < (vars.length : Int)) → ∀ v, v ∈ varsL l out → 0 ≤ v ∧ v < (vars.length : Int)
  | [], ar, out, hn, hs, ho, v, hv => by rw [varsL] at hv; exact ho v hv
  | t :: l, [], out, hn, hs, ho, v, hv => by rw [srtL] at hs; cases hs
  | t :: l, a :: ar, out, hn, hs, ho, v, hv => by
    rw [srtL, Bool.and_eq_true, Bool.and_eq_true] at hs
    rw [varsL] at hv
    exact srtL_vars s vars l ar (varsT t out) (fun x hx => hn x (by simp [hx])) hs.2.2 (srt_vars s vars t out (hn t (by simp)) hs.1 ho) v hv
end
theorem alikeB_iff {s : S} {vars : List Int} {a b : T} (hs : sigB s = true) (hw : within s.sorts.length vars = true) : alikeB s vars a b = (treeB a && (treeB b && ((srt s vars a).2 && ((srt s vars b).2 && ((srt s vars a).1 == (srt s vars b).1))))) := by
  unfold alikeB sortE
  simp only [hs, hw, if_true]
  cases treeB a <;> cases treeB b <;> cases (srt s vars a).2 <;> cases (srt s vars b).2 <;> simp
theorem alikeB_tree {s : S} {vars : List Int} {a b : T} (h : alikeB s vars a b = true) : treeB a = true ∧ treeB b = true ∧ (srt s vars a).2 = true ∧ (srt s vars b).2 = true := by
  unfold alikeB at h
  rw [Bool.and_eq_true, Bool.and_eq_true] at h
  have key : ∀ t, ((sortE s vars t).2 == 0) = true → treeB t = true ∧ (srt s vars t).2 = true := by
    intro t ht
    unfold sortE at ht
    split at ht
    · split at ht
      · split at ht
        · split at ht
          · rename_i h1 h2; exact ⟨h1, h2⟩
          · simp at ht
        · simp at ht
      · simp at ht
    · simp at ht
  exact ⟨(key a h.1).1, (key b h.2.1).1, (key a h.1).2, (key b h.2.1).2⟩
theorem eqnB_iff {s : S} {e : Eq2} : eqnB s e = true ↔ e.vars.length ≤ 64 ∧ e.conds.length ≤ 8 ∧ kindT e.a = 2 ∧ within s.sorts.length e.vars = true ∧ alikeB s e.vars e.a e.b = true ∧ (∀ c, c ∈ e.conds → alikeB s e.vars c.a c.b = true) ∧ ∀ v, v ∈ varsA (othersL e.b e.conds) → v ∈ varsA [e.a] := by
  unfold eqnB
  simp only [Bool.and_eq_true, Bool.not_eq_true', decide_eq_false_iff_not, bne_eq_false_iff_eq, List.all_eq_true, List.contains_iff_mem]
  constructor
  · rintro ⟨h1, h2, h3, h4, h5, h6, h7⟩; exact ⟨by omega, by omega, h3, h4, h5, h6, h7⟩
  · rintro ⟨h1, h2, h3, h4, h5, h6, h7⟩; exact ⟨by omega, by omega, h3, h4, h5, h6, h7⟩
theorem stdOK_of {s : S} {e : Eq2} (hf : e.Fit) (h : eqnB s e = true) : StdOK e := by
  obtain ⟨h1, h2, h3, h4, h5, h6, h7⟩ := eqnB_iff.1 h
  obtain ⟨ta, tb, sa, sb⟩ := alikeB_tree h5
  refine ⟨hf, treeB_node ta, treeB_node tb, h2, fun j c hc => ?_, fun v hv => ?_⟩
  · obtain ⟨tc, td, _, _⟩ := alikeB_tree (h6 c (List.mem_of_getElem? hc))
    exact ⟨treeB_node tc, treeB_node td⟩
  · unfold varsA at hv
    rw [if_pos (by simp [ta]), varsL, varsL] at hv
    exact srt_vars s e.vars e.a [] (treeB_node ta) sa (fun v hv => by cases hv) v hv
theorem part_all (it : TI) (cs : List V) (ha : it.agg = true) (hl : cs.length = it.size) : part it cs 0 = some (.agg cs) := by
  unfold part
  rw [if_pos (by omega), if_pos ha, List.drop_zero, ← hl, List.take_length]
theorem results_cell_tmp {tm : List V} {H : Heap} {d : List Nat} {fn : Func} {a b : Tmp} {t : TypeId} {it : TI} {k off : Nat} {cs : List V} {v w : V} (hr : fn.results.toList = [.cell a t, .tmp b]) (hT : cfg.T t = some it) (ha : tm[a]? = some (.bp k off)) (hH : H[k]? = some (.box cs)) (hp : part it cs off = some v) (hb : tm[b]? = some w) : results cfg fn ⟨tm, H, d⟩ = some (.tup [v, w]) := by
  unfold results
  rw [hr]
  simp only [List.mapM_cons, List.mapM_nil, readRes, hT, ha, hb, Option.bind_some, partH, loadD]
  rw [hH, Option.bind_some]
  show Option.map V.tup ((part it cs off).bind fun x => some [x, w]) = _
  rw [hp]
  rfl
theorem F38 : cfg.F 38 = some Tryz.f38 := rfl
set_option maxHeartbeats 8000000 in
theorem standard5_fn (s : S) (e : Eq2) (hs : s.Fit) (he : e.Fit) : Fn 38 [.agg (sV s), .agg (eV e)] (stdV s e) := by
  unfold stdV
  obtain ⟨vs, fv, cs, fc, ⟨k1, n1, f1, l1⟩, ⟨k2, n2, f2, l2⟩⟩ := e
  refine Fn.of_wp F38 rfl ?_
  simp only [show Tryz.f38.ntmps = 21 from rfl, List.length_cons, List.length_nil, List.replicate, List.cons_append, List.nil_append]
  repeat (first | refine zE ?_ | refine zP ?_ | refine zD ?_ | refine zQ ?_ | refine zR ?_ | refine zS ?_ | refine wN ?_ | refine wM ?_ | refine wR ?_ | refine wS ?_ | refine wB ?_ | refine wG ?_ | refine wD ?_ | refine wY ?_ | refine wZ ?_ | refine wK ?_ | refine wT ?_ | refine wX ?_)
  refine zF (step_call rfl rfl ((isSig5_fn s hs).call (by decide) rfl (by simp [V.flats, V.flat, flat_tV, flat_sV, flat_ints, flat_oV, flat_eV, flat_yV, flat_strs, flat_slOf, intV_flat, flats_rows flat_oV, flats_rows flat_eV, flats_rows flat_cV, flats_rows flat_tV]) _)) ?_
  repeat (first | refine zE ?_ | refine zP ?_ | refine zD ?_ | refine zQ ?_ | refine zR ?_ | refine zS ?_ | refine wN ?_ | refine wM ?_ | refine wR ?_ | refine wS ?_ | refine wB ?_ | refine wG ?_ | refine wD ?_ | refine wY ?_ | refine wZ ?_ | refine wK ?_ | refine wT ?_ | refine wX ?_)
  cases h1 : sigB s
  · repeat (first | refine zE ?_ | refine zP ?_ | refine zD ?_ | refine zQ ?_ | refine zR ?_ | refine zS ?_ | refine wN ?_ | refine wM ?_ | refine wR ?_ | refine wS ?_ | refine wB ?_ | refine wG ?_ | refine wD ?_ | refine wY ?_ | refine wZ ?_ | refine wK ?_ | refine wT ?_ | refine wX ?_)
    exact ⟨.inr rfl, .tup [.agg zero8, .int .i64 5], rfl, strip_flat rfl⟩
  repeat (first | refine zE ?_ | refine zP ?_ | refine zD ?_ | refine zQ ?_ | refine zR ?_ | refine zS ?_ | refine wN ?_ | refine wM ?_ | refine wR ?_ | refine wS ?_ | refine wB ?_ | refine wG ?_ | refine wD ?_ | refine wY ?_ | refine wZ ?_ | refine wK ?_ | refine wT ?_ | refine wX ?_)
  refine zF (step_call rfl rfl ((isEqn_fn s ⟨vs, fv, cs, fc, .mk k1 n1 f1 l1, .mk k2 n2 f2 l2⟩ hs he).call (by decide) rfl (by simp [V.flats, V.flat, flat_tV, flat_sV, flat_ints, flat_oV, flat_eV, flat_yV, flat_strs, flat_slOf, intV_flat, flats_rows flat_oV, flats_rows flat_eV, flats_rows flat_cV, flats_rows flat_tV]) _)) ?_
  repeat (first | refine zE ?_ | refine zP ?_ | refine zD ?_ | refine zQ ?_ | refine zR ?_ | refine zS ?_ | refine wN ?_ | refine wM ?_ | refine wR ?_ | refine wS ?_ | refine wB ?_ | refine wG ?_ | refine wD ?_ | refine wY ?_ | refine wZ ?_ | refine wK ?_ | refine wT ?_ | refine wX ?_)
  cases h2 : eqnB s ⟨vs, fv, cs, fc, .mk k1 n1 f1 l1, .mk k2 n2 f2 l2⟩
  · repeat (first | refine zE ?_ | refine zP ?_ | refine zD ?_ | refine zQ ?_ | refine zR ?_ | refine zS ?_ | refine wN ?_ | refine wM ?_ | refine wR ?_ | refine wS ?_ | refine wB ?_ | refine wG ?_ | refine wD ?_ | refine wY ?_ | refine wZ ?_ | refine wK ?_ | refine wT ?_ | refine wX ?_)
    exact ⟨.inr rfl, .tup [.agg zero8, .int .i64 5], rfl, strip_flat rfl⟩
  repeat (first | refine zE ?_ | refine zP ?_ | refine zD ?_ | refine zQ ?_ | refine zR ?_ | refine zS ?_ | refine wN ?_ | refine wM ?_ | refine wR ?_ | refine wS ?_ | refine wB ?_ | refine wG ?_ | refine wD ?_ | refine wY ?_ | refine wZ ?_ | refine wK ?_ | refine wT ?_ | refine wX ?_)
  refine zF (step_call rfl rfl ((std5_fn ⟨vs, fv, cs, fc, .mk k1 n1 f1 l1, .mk k2 n2 f2 l2⟩ (stdOK_of he h2)).call (by decide) rfl (by simp [V.flats, V.flat, flat_tV, flat_sV, flat_ints, flat_oV, flat_eV, flat_yV, flat_strs, flat_slOf, intV_flat, flats_rows flat_oV, flats_rows flat_eV, flats_rows flat_cV, flats_rows flat_tV]) _)) ?_
  generalize stdE ⟨vs, fv, cs, fc, .mk k1 n1 f1 l1, .mk k2 n2 f2 l2⟩ = e2
  refine run_store rfl rfl rfl rfl rfl (eV_one e2) (eV_len e2) (cs := zero8) rfl (cs' := eV e2) (by show splice zero8 0 (eV e2) = _; simp [splice, zero8, eV_len]) (by dsimp only [putTm, List.set]) ?_
  intro H2 hl2 hs2 ho2
  repeat (first | refine zE ?_ | refine zP ?_ | refine zD ?_ | refine zQ ?_ | refine zR ?_ | refine zS ?_ | refine wN ?_ | refine wM ?_ | refine wR ?_ | refine wS ?_ | refine wB ?_ | refine wG ?_ | refine wD ?_ | refine wY ?_ | refine wZ ?_ | refine wK ?_ | refine wT ?_ | refine wX ?_)
  exact ⟨.inr rfl, .tup [.agg (eV e2), .int .i64 0], results_cell_tmp rfl rfl rfl hs2 (part_all ti64 (eV e2) rfl (eV_len e2)) rfl, strip_flat (by simp [V.flat, V.flats, flat_eV])⟩
end Go.Av
