/- Contracts over the evaluator: trees. Conditions: none beyond the hypotheses of each theorem. -/
import Derived.Test.YtdjgjnahfekdhaaGreatDoorU1
set_option linter.unusedSectionVars false
set_option linter.unusedVariables false
set_option linter.unusedSimpArgs false
namespace Go.Av
open Go.Proofs
set_option maxRecDepth 100000
def mx (a b : Int) : Int := if b > a then b else a
mutual
def cP : T → Int → Int × Int → Int × Int
  | .mk k n f l, deep, p => cPL l deep (p.1 + 1, mx p.2 deep)
def cPL : List T → Int → Int × Int → Int × Int
  | [], _, p => p
  | t :: l, deep, p => if p.1 > 2000 ∨ p.2 > 200 then p else cPL l deep (cP t (deep + 1) p)
end
theorem cPL_over : ∀ (l : List T) (deep : Int) (p : Int × Int), (p.1 > 2000 ∨ p.2 > 200) → cPL l deep p = p
  | [], _, _, _ => by rw [cPL]
  | t :: l, deep, p, h => by rw [cPL, if_pos h]
mutual
theorem cP_in : ∀ (t : T) (deep : Int) (p : Int × Int), 0 ≤ p.1 → p.1 ≤ 2000 → 0 ≤ p.2 → p.2 ≤ 300 → 1 ≤ deep → deep ≤ 300 → (0 ≤ (cP t deep p).1 ∧ (cP t deep p).1 ≤ 2001 ∧ 0 ≤ (cP t deep p).2 ∧ (cP t deep p).2 ≤ 300 ∧ deep ≤ (cP t deep p).2)
  | .mk k n f l, deep, p, h1, h2, h3, h4, h5, h6 => by
    rw [cP]
    have e : 0 ≤ mx p.2 deep ∧ mx p.2 deep ≤ 300 ∧ deep ≤ mx p.2 deep := by unfold mx; split <;> omega
    exact cPL_in l deep (p.1 + 1, mx p.2 deep) (by dsimp only; omega) (by dsimp only; omega) e.1 e.2.1 h5 h6 e.2.2
theorem cPL_in : ∀ (l : List T) (deep : Int) (p : Int × Int), 0 ≤ p.1 → p.1 ≤ 2001 → 0 ≤ p.2 → p.2 ≤ 300 → 1 ≤ deep → deep ≤ 300 → deep ≤ p.2 → (0 ≤ (cPL l deep p).1 ∧ (cPL l deep p).1 ≤ 2001 ∧ 0 ≤ (cPL l deep p).2 ∧ (cPL l deep p).2 ≤ 300 ∧ deep ≤ (cPL l deep p).2)
  | [], deep, p, h1, h2, h3, h4, h5, h6, h7 => by rw [cPL]; exact ⟨h1, h2, h3, h4, h7⟩
  | t :: l, deep, p, h1, h2, h3, h4, h5, h6, h7 => by
    rw [cPL]
    split
    · exact ⟨h1, h2, h3, h4, h7⟩
    · rename_i hc
      have := cP_in t (deep + 1) p h1 (by omega) h3 h4 (by omega) (by omega)
      exact cPL_in l deep _ this.1 this.2.1 this.2.2.1 this.2.2.2.1 h5 h6 (by omega)
end
mutual
theorem cP_cnt : ∀ (t : T) (deep : Int) (p : Int × Int), 0 ≤ p.1 → p.1 ≤ 2000 → p.2 ≤ 200 →
    ((cntT t (2000 - p.1) deep).2 = true → (cP t deep p).1 = 2000 - (cntT t (2000 - p.1) deep).1 ∧ 0 ≤ (cP t deep p).1 ∧ (cP t deep p).1 ≤ 2000 ∧ (cP t deep p).2 ≤ 200) ∧ ((cntT t (2000 - p.1) deep).2 = false → (cP t deep p).1 > 2000 ∨ (cP t deep p).2 > 200)
  | .mk k n f l, deep, p, h1, h2, h3 => by
    rw [cP, cntT]
    by_cases hc : 2000 - p.1 - 1 < 0 ∨ deep > 200
    · rw [if_pos hc]
      refine ⟨fun h => by simp at h, fun _ => ?_⟩
      have : (p.1 + 1 > 2000 ∨ mx p.2 deep > 200) := by unfold mx; split <;> omega
      rw [cPL_over _ _ _ this]; exact this
    · rw [if_neg hc]
      have e : mx p.2 deep ≤ 200 := by unfold mx; split <;> omega
      have := cPL_cnt l deep (p.1 + 1, mx p.2 deep) (by dsimp only; omega) (by dsimp only; omega) e
      rw [show 2000 - p.1 - 1 = 2000 - (p.1 + 1) by omega]
      exact this
theorem cPL_cnt : ∀ (l : List T) (deep : Int) (p : Int × Int), 0 ≤ p.1 → p.1 ≤ 2000 → p.2 ≤ 200 →
    ((cntL l (2000 - p.1) deep).2 = true → (cPL l deep p).1 = 2000 - (cntL l (2000 - p.1) deep).1 ∧ 0 ≤ (cPL l deep p).1 ∧ (cPL l deep p).1 ≤ 2000 ∧ (cPL l deep p).2 ≤ 200) ∧ ((cntL l (2000 - p.1) deep).2 = false → (cPL l deep p).1 > 2000 ∨ (cPL l deep p).2 > 200)
  | [], deep, p, h1, h2, h3 => by
    rw [cntL, cPL]
    exact ⟨fun _ => ⟨by omega, h1, h2, h3⟩, fun h => by simp at h⟩
  | t :: l, deep, p, h1, h2, h3 => by
    rw [cntL, cPL, if_neg (by omega)]
    obtain ⟨a, b⟩ := cP_cnt t (deep + 1) p h1 h2 h3
    split
    · rename_i n hn
      rw [hn] at a b
      obtain ⟨a1, a2, a3, a4⟩ := a rfl
      have := cPL_cnt l deep (cP t (deep + 1) p) a2 a3 a4
      rw [a1, show (2000 : Int) - (2000 - (n, true).1) = n by simp; omega] at this
      rw [show (n, true).1 = n from rfl] at a1
      simpa [a1] using this
    · rename_i n hn
      rw [hn] at a b
      have := b rfl
      rw [cPL_over _ _ _ this]
      exact ⟨fun h => by simp at h, fun _ => this⟩
end
structure Counted (H : Heap) (j : Nat) (p : Int × Int) (r : CR) : Prop where
  pan : r.pan = false
  val : r.v = .tup []
  box : r.H[j]? = some (.box [.int .i64 p.1, .int .i64 p.2])
  len : H.length ≤ r.H.length
  same : ∀ i, i < H.length → i ≠ j → r.H[i]? = H[i]?
  dj : j ∈ r.d
  ds : ∀ i, i ∈ r.d → i = j ∨ H.length ≤ i
theorem call_eff {H : Heap} {g : FuncId} {args : List V} {r : CR} (h : E g args H = some r) (hp : r.pan = false) (hg : g ≠ 102) (hk : cfg.keep g = false) (hs : args.mapM (strip H 0 true sf) = none) {j : Nat} (hj : j ∈ r.d) (hjl : j < H.length) :
    ∃ d, callF cfg E g args H = some ⟨r.v, false, r.H, .eff d⟩ ∧ ∀ i, i ∈ d → i ∈ r.d ∧ i < H.length := by
  unfold callF
  rw [if_neg (show g ≠ cfg.guard from hg), if_neg (by rw [hk]; simp)]
  have hm : j ∈ r.d.filter (· < H.length) := by simp [hj, hjl]
  simp only [hs, h, Option.bind_some]
  split
  · rename_i e; rw [e] at hm; cases hm
  · exact ⟨_, by rw [hp], fun i hi => by simpa using hi⟩
theorem F262 : cfg.F 262 = some Tryz.f262 := rfl
set_option maxHeartbeats 8000000 in
theorem count_ent : ∀ (t : T), t.Fit → ∀ (H0 : Heap) (j : Nat) (c dp deep : Int), H0[j]? = some (.box [.int .i64 c, .int .i64 dp]) → 0 ≤ c → c ≤ 2000 → 0 ≤ dp → dp ≤ 300 → 1 ≤ deep → deep ≤ 300 →
    ∃ r, E 262 [.bp j 0, .agg (tV t), .int .i64 deep] H0 = some r ∧ Counted H0 j (cP t deep (c, dp)) r := by
  refine T_ind ?_
  intro k n f l ih hfit H0 j c dp deep hj h1 h2 h3 h4 h5 h6
  rw [T.Fit] at hfit
  rw [tV_mk, cP]
  refine enter_wp (P := fun r => Counted H0 j _ r) F262 rfl ?_
  simp only [show Tryz.f262.ntmps = 49 from rfl, List.length_cons, List.length_nil, List.replicate, List.cons_append, List.nil_append]
  refine wp_seq ?_
  refine wp_region ?_
  refine run_new rfl rfl (fun m => (by dsimp only [putTm, List.set])) ?_
  intro m H1 hm hl1 hbt hold
  have hjl := get_lt hj
  have hj1 : H1[j]? = some (.box [.int .i64 c, .int .i64 dp]) := by rw [hold j (by omega)]; exact hj
  repeat (first | refine zL hj1 ?_ | refine zM hj1 ?_ | refine zO hj1 ?_ | refine zE ?_ | refine zP ?_ | refine zD ?_ | refine zQ ?_ | refine zR ?_ | refine zS ?_ | refine wN ?_ | refine wM ?_ | refine wR ?_ | refine wS ?_ | refine wB ?_ | refine wG ?_ | refine wD ?_ | refine wY ?_ | refine wZ ?_ | refine wK ?_ | refine wT ?_ | refine wX ?_)
  rw [wrap_in (show -9223372036854775808 ≤ c + 1 by omega) (by omega)]
  repeat (first | refine zL hj1 ?_ | refine zM hj1 ?_ | refine zO hj1 ?_ | refine zE ?_ | refine zP ?_ | refine zD ?_ | refine zQ ?_ | refine zR ?_ | refine zS ?_ | refine wN ?_ | refine wM ?_ | refine wR ?_ | refine wS ?_ | refine wB ?_ | refine wG ?_ | refine wD ?_ | refine wY ?_ | refine wZ ?_ | refine wK ?_ | refine wT ?_ | refine wX ?_)
  refine run_store (v := .int .i64 (c + 1)) rfl rfl rfl rfl rfl rfl rfl hj1 (cs' := [.int .i64 (c + 1), .int .i64 dp]) rfl (by dsimp only [putTm, List.set]) ?_
  intro H2 hl2 hj2 ho2
  repeat (first | refine zL hj2 ?_ | refine zM hj2 ?_ | refine zO hj2 ?_ | refine zE ?_ | refine zP ?_ | refine zD ?_ | refine zQ ?_ | refine zR ?_ | refine zS ?_ | refine wN ?_ | refine wM ?_ | refine wR ?_ | refine wS ?_ | refine wB ?_ | refine wG ?_ | refine wD ?_ | refine wY ?_ | refine wZ ?_ | refine wK ?_ | refine wT ?_ | refine wX ?_)
  refine run_store (v := .int .i64 (mx dp deep)) rfl rfl rfl rfl rfl rfl rfl hj2 (cs' := [.int .i64 (c + 1), .int .i64 (mx dp deep)]) rfl (by dsimp only [putTm, List.set]) ?_
  intro H3 hl3 hj3 ho3
  have hmj : m ≠ j := by omega
  have hbt3 : H3[m]? = some (.box [.int .i64 k, .int .i64 n, .sl l.length f (rows tV l)]) := by rw [ho3 m hmj, ho2 m hmj]; exact hbt
  repeat (first | refine zL hbt3 ?_ | refine zM hbt3 ?_ | refine zO hbt3 ?_ | refine zE ?_ | refine zP ?_ | refine zD ?_ | refine zQ ?_ | refine zR ?_ | refine zS ?_ | refine wN ?_ | refine wM ?_ | refine wR ?_ | refine wS ?_ | refine wB ?_ | refine wG ?_ | refine wD ?_ | refine wY ?_ | refine wZ ?_ | refine wK ?_ | refine wT ?_ | refine wX ?_)
  have e : 0 ≤ mx dp deep ∧ mx dp deep ≤ 300 ∧ deep ≤ mx dp deep := by unfold mx; split <;> omega
  refine wp_loop3 21 (fun a : Nat × V => [.bp j 0, .agg [.int .i64 k, .int .i64 n, .sl l.length f (rows tV l)], .int .i64 deep, .junk, .bp m 0, .junk, .junk, a.2, .bp j 0, .bp j 0, .bp j 0, .int .i64 c, .int .i64 (c + 1), .bp j 0, .bp j 0, .bp j 0, .bp j 0, .bp j 0, .bp j 1, .int .i64 dp, .int .i64 deep, .int .i64 (mx dp deep), .bp j 0, .bp j 1, .bp m 2, .sl l.length f (rows tV l), .int .i64 (l.length : Int), .int .i64 (a.1 : Int)]) (fun a H d => a.1 ≤ l.length ∧ H[m]? = some (.box [.int .i64 k, .int .i64 n, .sl l.length f (rows tV l)]) ∧ H0.length < H.length ∧ (∀ i, i < H0.length → i ≠ j → H[i]? = H0[i]?) ∧ j ∈ d ∧ (∀ i, i ∈ d → i = j ∨ H0.length ≤ i) ∧ ∃ c' dp', H[j]? = some (.box [.int .i64 c', .int .i64 dp']) ∧ 0 ≤ c' ∧ c' ≤ 2001 ∧ 0 ≤ dp' ∧ dp' ≤ 300 ∧ deep ≤ dp' ∧ cPL (l.drop a.1) deep (c', dp') = cPL l deep (c + 1, mx dp deep)) (fun a => l.length - a.1) (0, .junk) ⟨_, rfl, rfl, Nat.zero_le _, hbt3, by omega, fun i hi hij => by rw [ho3 i hij, ho2 i hij, hold i (by omega)], by simp [Cls.dirty], fun i hi => by simp [Cls.dirty] at hi; exact .inl hi, c + 1, mx dp deep, hj3, by omega, by omega, e.1, e.2.1, e.2.2, rfl⟩ ?_
  clear hbt hold hj1 hl2 hj2 ho2 hl3 hj3 ho3 hbt3
  rintro ⟨i, v7⟩ H d u ⟨hi, hbt, hlen, hsame, hdj, hds, c', dp', hjc, g1, g2, g3, g4, g5, hc⟩
  dsimp only at hi hc ⊢
  (rw [show (List.range 21).map u = [u 0, u 1, u 2, u 3, u 4, u 5, u 6, u 7, u 8, u 9, u 10, u 11, u 12, u 13, u 14, u 15, u 16, u 17, u 18, u 19, u 20] from rfl]; simp only [List.cons_append, List.nil_append])
  repeat (first | refine zE ?_ | refine zP ?_ | refine zD ?_ | refine zQ ?_ | refine zR ?_ | refine zS ?_ | refine wN ?_ | refine wM ?_ | refine wR ?_ | refine wS ?_ | refine wB ?_ | refine wG ?_ | refine wD ?_ | refine wY ?_ | refine wZ ?_ | refine wK ?_ | refine wT ?_ | refine wX ?_)
  by_cases hlt : i < l.length
  · refine wp_yes rfl (decide_eq_true (by omega)) ?_
    obtain ⟨x, hx⟩ := get_of hlt
    have hmem := List.mem_of_getElem? hx
    rw [drop_of hx, cPL] at hc
    repeat (first | refine zE ?_ | refine zP ?_ | refine zD ?_ | refine zQ ?_ | refine zR ?_ | refine zS ?_ | refine wN ?_ | refine wM ?_ | refine wR ?_ | refine wS ?_ | refine wB ?_ | refine wG ?_ | refine wD ?_ | refine wY ?_ | refine wZ ?_ | refine wK ?_ | refine wT ?_ | refine wX ?_)
    refine zF (step_idx rfl rfl rfl rfl rfl rfl ⟨by omega, by omega⟩ (drop_rows (k := 3) tV_len hx)) ?_
    refine zF (step_enc rfl rfl rfl (tV_len _) rfl) ?_
    refine run_new rfl rfl (fun m => (by dsimp only [putTm, List.set])) ?_
    intro m2 H4 hm2 hl4 hb4 hold4
    refine run_store (v := .agg (tV x)) rfl rfl rfl rfl rfl (tV_one x) (tV_len x) hb4 (cs' := tV x) (by show splice [.int .i64 0, .int .i64 0, .sl 0 true []] 0 (tV x) = _; simp [splice, tV_len]) (by dsimp only [putTm, List.set]) ?_
    intro H5 hl5 hb5 ho5
    have gj := get_lt hjc
    have gm := get_lt hbt
    have hjc5 : H5[j]? = some (.box [.int .i64 c', .int .i64 dp']) := by rw [ho5 j (by omega), hold4 j (by omega)]; exact hjc
    have hbt5 : H5[m]? = some (.box [.int .i64 k, .int .i64 n, .sl l.length f (rows tV l)]) := by rw [ho5 m (by omega), hold4 m (by omega)]; exact hbt
    have hsame5 : ∀ i, i < H0.length → i ≠ j → H5[i]? = H0[i]? := fun i hi hij => by rw [ho5 i (by omega), hold4 i (by omega)]; exact hsame i hi hij
    have fin : ∀ d', (∃ d0, (d' : List Nat) = d0 ++ (m2 :: d) ∧ d0 = []) → j ∈ d' ∧ ∀ i, i ∈ d' → i = j ∨ H0.length ≤ i := by
      rintro d' ⟨d0, rfl, rfl⟩
      refine ⟨by simp [hdj], fun i hi => ?_⟩
      rcases List.mem_cons.1 hi with rfl | hi
      · right; omega
      · exact hds i hi
    have hd5 := fin _ ⟨[], rfl, rfl⟩
    repeat (first | refine zL hjc5 ?_ | refine zM hjc5 ?_ | refine zO hjc5 ?_ | refine zE ?_ | refine zP ?_ | refine zD ?_ | refine zQ ?_ | refine zR ?_ | refine zS ?_ | refine wN ?_ | refine wM ?_ | refine wR ?_ | refine wS ?_ | refine wB ?_ | refine wG ?_ | refine wD ?_ | refine wY ?_ | refine wZ ?_ | refine wK ?_ | refine wT ?_ | refine wX ?_)
    cases h7 : decide (c' > 2000)
    case true =>
      rw [if_pos (.inl (of_decide_eq_true h7))] at hc
      repeat (first | refine zE ?_ | refine zP ?_ | refine zD ?_ | refine zQ ?_ | refine zR ?_ | refine zS ?_ | refine wN ?_ | refine wM ?_ | refine wR ?_ | refine wS ?_ | refine wB ?_ | refine wG ?_ | refine wD ?_ | refine wY ?_ | refine wZ ?_ | refine wK ?_ | refine wT ?_ | refine wX ?_)
      refine ⟨.inr rfl, _, rfl, rfl, rfl, by rw [← hc]; exact hjc5, by dsimp only; omega, hsame5, ?_, ?_⟩
      · exact hd5.1
      · exact hd5.2
    repeat (first | refine zL hjc5 ?_ | refine zM hjc5 ?_ | refine zO hjc5 ?_ | refine zE ?_ | refine zP ?_ | refine zD ?_ | refine zQ ?_ | refine zR ?_ | refine zS ?_ | refine wN ?_ | refine wM ?_ | refine wR ?_ | refine wS ?_ | refine wB ?_ | refine wG ?_ | refine wD ?_ | refine wY ?_ | refine wZ ?_ | refine wK ?_ | refine wT ?_ | refine wX ?_)
    cases h8 : decide (dp' > 200)
    case true =>
      rw [if_pos (.inr (of_decide_eq_true h8))] at hc
      repeat (first | refine zE ?_ | refine zP ?_ | refine zD ?_ | refine zQ ?_ | refine zR ?_ | refine zS ?_ | refine wN ?_ | refine wM ?_ | refine wR ?_ | refine wS ?_ | refine wB ?_ | refine wG ?_ | refine wD ?_ | refine wY ?_ | refine wZ ?_ | refine wK ?_ | refine wT ?_ | refine wX ?_)
      refine ⟨.inr rfl, _, rfl, rfl, rfl, by rw [← hc]; exact hjc5, by dsimp only; omega, hsame5, ?_, ?_⟩
      · exact hd5.1
      · exact hd5.2
    have h7' := of_decide_eq_false h7
    have h8' := of_decide_eq_false h8
    rw [if_neg (by omega)] at hc
    repeat (first | refine zL hb5 ?_ | refine zM hb5 ?_ | refine zO hb5 ?_ | refine zE ?_ | refine zP ?_ | refine zD ?_ | refine zQ ?_ | refine zR ?_ | refine zS ?_ | refine wN ?_ | refine wM ?_ | refine wR ?_ | refine wS ?_ | refine wB ?_ | refine wG ?_ | refine wD ?_ | refine wY ?_ | refine wZ ?_ | refine wK ?_ | refine wT ?_ | refine wX ?_)
    refine zF (step_load (v := .agg (tV x)) rfl rfl rfl hb5 (by show part ti62 (tV x) 0 = _; simp [part, ti62, tV_len]; rw [← tV_len x, List.take_length])) ?_
    repeat (first | refine zE ?_ | refine zP ?_ | refine zD ?_ | refine zQ ?_ | refine zR ?_ | refine zS ?_ | refine wN ?_ | refine wM ?_ | refine wR ?_ | refine wS ?_ | refine wB ?_ | refine wG ?_ | refine wD ?_ | refine wY ?_ | refine wZ ?_ | refine wK ?_ | refine wT ?_ | refine wX ?_)
    rw [wrap_in (show -9223372036854775808 ≤ deep + 1 by omega) (by omega)]
    repeat (first | refine zE ?_ | refine zP ?_ | refine zD ?_ | refine zQ ?_ | refine zR ?_ | refine zS ?_ | refine wN ?_ | refine wM ?_ | refine wR ?_ | refine wS ?_ | refine wB ?_ | refine wG ?_ | refine wD ?_ | refine wY ?_ | refine wZ ?_ | refine wK ?_ | refine wT ?_ | refine wX ?_)
    obtain ⟨r, he, hr⟩ := ih x hmem (hfit.2.at hmem) H5 j c' dp' (deep + 1) hjc5 g1 (by omega) g3 g4 (by omega) (by omega)
    obtain ⟨d2, hcall, hd2⟩ := call_eff he hr.pan (by decide) rfl (mapM_none (x := .bp j 0) (by simp) rfl) hr.dj (get_lt hjc5)
    refine zF (step_call rfl rfl hcall) ?_
    repeat (first | refine zE ?_ | refine zP ?_ | refine zD ?_ | refine zQ ?_ | refine zR ?_ | refine zS ?_ | refine wN ?_ | refine wM ?_ | refine wR ?_ | refine wS ?_ | refine wB ?_ | refine wG ?_ | refine wD ?_ | refine wY ?_ | refine wZ ?_ | refine wK ?_ | refine wT ?_ | refine wX ?_)
    rw [wrap_succ (by omega)]
    have hin := cP_in x (deep + 1) (c', dp') g1 (by dsimp only; omega) g3 g4 (by omega) (by omega)
    refine ⟨(i + 1, .bp m2 0), _, rfl, rfl, ⟨hlt, ?_, ?_, ?_, ?_, ?_, (cP x (deep + 1) (c', dp')).1, (cP x (deep + 1) (c', dp')).2, hr.box, hin.1, hin.2.1, hin.2.2.1, hin.2.2.2.1, by omega, hc⟩, (by first | omega | (dsimp only; omega))⟩
    · rw [hr.same m (by omega) hmj]; exact hbt5
    · have := hr.len; omega
    · intro i hi hij
      rw [hr.same i (by omega) hij]; exact hsame5 i hi hij
    · simp [Cls.dirty, hdj]
    · intro i hi
      simp [Cls.dirty] at hi
      rcases hi with hi | rfl | hi
      · have := (hd2 i hi).1
        rcases hr.ds i this with h | h
        · exact .inl h
        · right; omega
      · right; omega
      · exact hds i hi
  refine wp_no rfl (decide_eq_false (by omega)) ?_
  have hil : i = l.length := by omega
  subst hil
  rw [List.drop_length, cPL] at hc
  repeat (first | refine zE ?_ | refine zP ?_ | refine zD ?_ | refine zQ ?_ | refine zR ?_ | refine zS ?_ | refine wN ?_ | refine wM ?_ | refine wR ?_ | refine wS ?_ | refine wB ?_ | refine wG ?_ | refine wD ?_ | refine wY ?_ | refine wZ ?_ | refine wK ?_ | refine wT ?_ | refine wX ?_)
  refine ⟨.inl rfl, _, rfl, rfl, rfl, by rw [← hc]; exact hjc, by dsimp only; omega, hsame, ?_, ?_⟩
  · exact hdj
  · exact hds
end Go.Av
namespace Go.Av
open Go.Proofs
set_option maxRecDepth 100000
def overP (p : Int × Int) : Bool := decide (p.1 > 2000) || decide (p.2 > 200)
theorem F263 : cfg.F 263 = some Tryz.f263 := rfl
theorem over_fn (H : Heap) (j : Nat) (c dp : Int) (hj : H[j]? = some (.box [.int .i64 c, .int .i64 dp])) : FnH 263 [.bp j 0] H (.bool (overP (c, dp))) := by
  unfold overP
  refine FnH.of_wp F263 rfl ?_
  simp only [show Tryz.f263.ntmps = 15 from rfl, List.length_cons, List.length_nil, List.replicate, List.cons_append, List.nil_append]
  repeat (first | refine zL hj ?_ | refine zM hj ?_ | refine zO hj ?_ | refine zE ?_ | refine zP ?_ | refine zD ?_ | refine zQ ?_ | refine zR ?_ | refine zS ?_ | refine wN ?_ | refine wM ?_ | refine wR ?_ | refine wS ?_ | refine wB ?_ | refine wG ?_ | refine wD ?_ | refine wY ?_ | refine wZ ?_ | refine wK ?_ | refine wT ?_ | refine wX ?_)
  cases h1 : decide (c > 2000)
  · repeat (first | refine zL hj ?_ | refine zM hj ?_ | refine zO hj ?_ | refine zE ?_ | refine zP ?_ | refine zD ?_ | refine zQ ?_ | refine zR ?_ | refine zS ?_ | refine wN ?_ | refine wM ?_ | refine wR ?_ | refine wS ?_ | refine wB ?_ | refine wG ?_ | refine wD ?_ | refine wY ?_ | refine wZ ?_ | refine wK ?_ | refine wT ?_ | refine wX ?_)
    exact ⟨.inr rfl, _, rfl, fun j hj => by (first | cases hj | simp at hj), rfl⟩
  · repeat (first | refine zL hj ?_ | refine zM hj ?_ | refine zO hj ?_ | refine zE ?_ | refine zP ?_ | refine zD ?_ | refine zQ ?_ | refine zR ?_ | refine zS ?_ | refine wN ?_ | refine wM ?_ | refine wR ?_ | refine wS ?_ | refine wB ?_ | refine wG ?_ | refine wD ?_ | refine wY ?_ | refine wZ ?_ | refine wK ?_ | refine wT ?_ | refine wX ?_)
    exact ⟨.inr rfl, _, rfl, fun j hj => by (first | cases hj | simp at hj), rfl⟩
theorem F292 : cfg.F 292 = some Tryz.f292 := rfl
theorem shaped1_fn (t : T) (b : Bool) (h : Fn 264 [.agg (tV t)] (.bool b)) : Fn 292 [.agg (tV t)] (.bool !b) := by
  obtain ⟨k, n, f, l⟩ := t
  refine Fn.of_wp F292 rfl ?_
  simp only [show Tryz.f292.ntmps = 6 from rfl, List.length_cons, List.length_nil, List.replicate, List.cons_append, List.nil_append]
  repeat (first | refine zE ?_ | refine zP ?_ | refine zD ?_ | refine zQ ?_ | refine zR ?_ | refine zS ?_ | refine wN ?_ | refine wM ?_ | refine wR ?_ | refine wS ?_ | refine wB ?_ | refine wG ?_ | refine wD ?_ | refine wY ?_ | refine wZ ?_ | refine wK ?_ | refine wT ?_ | refine wX ?_)
  refine zF (step_call rfl rfl (h.call (by decide) rfl (by simp [V.flats, V.flat, flat_tV, flat_sV, flat_ints, flat_oV, flat_eV, flat_yV, flat_strs, flats_rows flat_tV, flats_rows flat_oV, flats_rows flat_eV, flats_rows flat_yV]) _)) ?_
  repeat (first | refine zE ?_ | refine zP ?_ | refine zD ?_ | refine zQ ?_ | refine zR ?_ | refine zS ?_ | refine wN ?_ | refine wM ?_ | refine wR ?_ | refine wS ?_ | refine wB ?_ | refine wG ?_ | refine wD ?_ | refine wY ?_ | refine wZ ?_ | refine wK ?_ | refine wT ?_ | refine wX ?_)
  exact ⟨.inr rfl, _, rfl, rfl⟩
theorem any_not {α : Type} (p : α → Bool) : ∀ l : List α, (!(l.any fun x => !(p x))) = l.all p
  | [] => rfl
  | x :: l => by rw [List.any_cons, List.all_cons, ← any_not p l]; cases p x <;> simp
theorem F264 : cfg.F 264 = some Tryz.f264 := rfl
set_option maxHeartbeats 4000000 in
theorem shaped_fn : ∀ (t : T), t.Fit → Fn 264 [.agg (tV t)] (.bool (nodeT t)) := by
  refine T_ind ?_
  intro k n f l ih hfit
  rw [T.Fit] at hfit
  rw [tV_mk, nodeT, nodesT_all]
  refine Fn.of_wp F264 rfl ?_
  simp only [show Tryz.f264.ntmps = 32 from rfl, List.length_cons, List.length_nil, List.replicate, List.cons_append, List.nil_append]
  repeat (first | refine zE ?_ | refine zP ?_ | refine zD ?_ | refine zQ ?_ | refine zR ?_ | refine zS ?_ | refine wN ?_ | refine wM ?_ | refine wR ?_ | refine wS ?_ | refine wB ?_ | refine wG ?_ | refine wD ?_ | refine wY ?_ | refine wZ ?_ | refine wK ?_ | refine wT ?_ | refine wX ?_)
  cases h1 : decide (n < 0)
  case true =>
    repeat (first | refine zE ?_ | refine zP ?_ | refine zD ?_ | refine zQ ?_ | refine zR ?_ | refine zS ?_ | refine wN ?_ | refine wM ?_ | refine wR ?_ | refine wS ?_ | refine wB ?_ | refine wG ?_ | refine wD ?_ | refine wY ?_ | refine wZ ?_ | refine wK ?_ | refine wT ?_ | refine wX ?_)
    exact ⟨.inr rfl, _, rfl, rfl⟩
  repeat (first | refine zE ?_ | refine zP ?_ | refine zD ?_ | refine zQ ?_ | refine zR ?_ | refine zS ?_ | refine wN ?_ | refine wM ?_ | refine wR ?_ | refine wS ?_ | refine wB ?_ | refine wG ?_ | refine wD ?_ | refine wY ?_ | refine wZ ?_ | refine wK ?_ | refine wT ?_ | refine wX ?_)
  cases h2 : (k == 1)
  case true =>
    have hk : k = 1 := by simpa using h2
    subst hk
    repeat (first | refine zE ?_ | refine zP ?_ | refine zD ?_ | refine zQ ?_ | refine zR ?_ | refine zS ?_ | refine wN ?_ | refine wM ?_ | refine wR ?_ | refine wS ?_ | refine wB ?_ | refine wG ?_ | refine wD ?_ | refine wY ?_ | refine wZ ?_ | refine wK ?_ | refine wT ?_ | refine wX ?_)
    cases h3 : decide ((l.length : Int) > 0)
    case true =>
      repeat (first | refine zE ?_ | refine zP ?_ | refine zD ?_ | refine zQ ?_ | refine zR ?_ | refine zS ?_ | refine wN ?_ | refine wM ?_ | refine wR ?_ | refine wS ?_ | refine wB ?_ | refine wG ?_ | refine wD ?_ | refine wY ?_ | refine wZ ?_ | refine wK ?_ | refine wT ?_ | refine wX ?_)
      exact ⟨.inr rfl, _, rfl, rfl⟩
    have h3' := of_decide_eq_false h3
    have h4 : decide ((l.length : Int) > 8) = false := decide_eq_false (by omega)
    repeat (first | refine zE ?_ | refine zP ?_ | refine zD ?_ | refine zQ ?_ | refine zR ?_ | refine zS ?_ | refine wN ?_ | refine wM ?_ | refine wR ?_ | refine wS ?_ | refine wB ?_ | refine wG ?_ | refine wD ?_ | refine wY ?_ | refine wZ ?_ | refine wK ?_ | refine wT ?_ | refine wX ?_)
    refine wp_no rfl h4 ?_
    obtain ⟨r, he, hq⟩ := hasT_ent l f 292 [] (fun x => !(nodeT x)) [] (by have := hfit.1; omega) rfl rfl (.inl ⟨rfl, rfl⟩) fun x hx => (shaped1_fn x _ (ih x hx (hfit.2.at hx))).cf (by decide) rfl (by simp [V.flats, V.flat, flat_tV, flat_sV, flat_ints, flat_oV, flat_eV, flat_yV, flat_strs, flats_rows flat_tV, flats_rows flat_oV, flats_rows flat_eV, flats_rows flat_yV]) _
    repeat (first | refine zE ?_ | refine zP ?_ | refine zD ?_ | refine zQ ?_ | refine zR ?_ | refine zS ?_ | refine wN ?_ | refine wM ?_ | refine wR ?_ | refine wS ?_ | refine wB ?_ | refine wG ?_ | refine wD ?_ | refine wY ?_ | refine wZ ?_ | refine wK ?_ | refine wT ?_ | refine wX ?_)
    refine zF (step_call rfl rfl ((hq.fn he rfl rfl).cl)) ?_
    repeat (first | refine zE ?_ | refine zP ?_ | refine zD ?_ | refine zQ ?_ | refine zR ?_ | refine zS ?_ | refine wN ?_ | refine wM ?_ | refine wR ?_ | refine wS ?_ | refine wB ?_ | refine wG ?_ | refine wD ?_ | refine wY ?_ | refine wZ ?_ | refine wK ?_ | refine wT ?_ | refine wX ?_)
    rw [any_not, h4]
    exact ⟨.inr rfl, _, rfl, rfl⟩
  have hk1 : (k != 1) = true := by rw [bne, h2]; rfl
  repeat (first | refine zE ?_ | refine zP ?_ | refine zD ?_ | refine zQ ?_ | refine zR ?_ | refine zS ?_ | refine wN ?_ | refine wM ?_ | refine wR ?_ | refine wS ?_ | refine wB ?_ | refine wG ?_ | refine wD ?_ | refine wY ?_ | refine wZ ?_ | refine wK ?_ | refine wT ?_ | refine wX ?_)
  rw [hk1]
  repeat (first | refine zE ?_ | refine zP ?_ | refine zD ?_ | refine zQ ?_ | refine zR ?_ | refine zS ?_ | refine wN ?_ | refine wM ?_ | refine wR ?_ | refine wS ?_ | refine wB ?_ | refine wG ?_ | refine wD ?_ | refine wY ?_ | refine wZ ?_ | refine wK ?_ | refine wT ?_ | refine wX ?_)
  cases h5 : (k != 2)
  case true =>
    repeat (first | refine zE ?_ | refine zP ?_ | refine zD ?_ | refine zQ ?_ | refine zR ?_ | refine zS ?_ | refine wN ?_ | refine wM ?_ | refine wR ?_ | refine wS ?_ | refine wB ?_ | refine wG ?_ | refine wD ?_ | refine wY ?_ | refine wZ ?_ | refine wK ?_ | refine wT ?_ | refine wX ?_)
    exact ⟨.inr rfl, _, rfl, rfl⟩
  repeat (first | refine zE ?_ | refine zP ?_ | refine zD ?_ | refine zQ ?_ | refine zR ?_ | refine zS ?_ | refine wN ?_ | refine wM ?_ | refine wR ?_ | refine wS ?_ | refine wB ?_ | refine wG ?_ | refine wD ?_ | refine wY ?_ | refine wZ ?_ | refine wK ?_ | refine wT ?_ | refine wX ?_)
  cases h4 : decide ((l.length : Int) > 8)
  case true =>
    repeat (first | refine zE ?_ | refine zP ?_ | refine zD ?_ | refine zQ ?_ | refine zR ?_ | refine zS ?_ | refine wN ?_ | refine wM ?_ | refine wR ?_ | refine wS ?_ | refine wB ?_ | refine wG ?_ | refine wD ?_ | refine wY ?_ | refine wZ ?_ | refine wK ?_ | refine wT ?_ | refine wX ?_)
    exact ⟨.inr rfl, _, rfl, rfl⟩
  obtain ⟨r, he, hq⟩ := hasT_ent l f 292 [] (fun x => !(nodeT x)) [] (by have := hfit.1; omega) rfl rfl (.inl ⟨rfl, rfl⟩) fun x hx => (shaped1_fn x _ (ih x hx (hfit.2.at hx))).cf (by decide) rfl (by simp [V.flats, V.flat, flat_tV, flat_sV, flat_ints, flat_oV, flat_eV, flat_yV, flat_strs, flats_rows flat_tV, flats_rows flat_oV, flats_rows flat_eV, flats_rows flat_yV]) _
  repeat (first | refine zE ?_ | refine zP ?_ | refine zD ?_ | refine zQ ?_ | refine zR ?_ | refine zS ?_ | refine wN ?_ | refine wM ?_ | refine wR ?_ | refine wS ?_ | refine wB ?_ | refine wG ?_ | refine wD ?_ | refine wY ?_ | refine wZ ?_ | refine wK ?_ | refine wT ?_ | refine wX ?_)
  refine zF (step_call rfl rfl ((hq.fn he rfl rfl).cl)) ?_
  repeat (first | refine zE ?_ | refine zP ?_ | refine zD ?_ | refine zQ ?_ | refine zR ?_ | refine zS ?_ | refine wN ?_ | refine wM ?_ | refine wR ?_ | refine wS ?_ | refine wB ?_ | refine wG ?_ | refine wD ?_ | refine wY ?_ | refine wZ ?_ | refine wK ?_ | refine wT ?_ | refine wX ?_)
  rw [any_not]
  exact ⟨.inr rfl, _, rfl, rfl⟩
theorem overP_cnt (t : T) : overP (cP t 1 (0, 0)) = !(cntT t 2000 1).2 := by
  obtain ⟨a, b⟩ := cP_cnt t 1 (0, 0) (by dsimp only; omega) (by dsimp only; omega) (by dsimp only; omega)
  simp only [Int.sub_zero] at a b
  unfold overP
  cases h : (cntT t 2000 1).2
  · have := b h
    rcases this with h | h
    · rw [decide_eq_true h]; rfl
    · rw [decide_eq_true h, Bool.or_true]; rfl
  · obtain ⟨_, _, h3, h4⟩ := a h
    rw [decide_eq_false (by omega), decide_eq_false (by omega)]; rfl
theorem F236 : cfg.F 236 = some Tryz.f236 := rfl
set_option maxHeartbeats 4000000 in
theorem isTree_fn (t : T) (hfit : t.Fit) : Fn 236 [.agg (tV t)] (.bool (treeB t)) := by
  unfold treeB
  obtain ⟨k, n, f, l⟩ := t
  refine Fn.of_wp F236 rfl ?_
  simp only [show Tryz.f236.ntmps = 12 from rfl, List.length_cons, List.length_nil, List.replicate, List.cons_append, List.nil_append]
  repeat (first | refine zE ?_ | refine zP ?_ | refine zD ?_ | refine zQ ?_ | refine zR ?_ | refine zS ?_ | refine wN ?_ | refine wM ?_ | refine wR ?_ | refine wS ?_ | refine wB ?_ | refine wG ?_ | refine wD ?_ | refine wY ?_ | refine wZ ?_ | refine wK ?_ | refine wT ?_ | refine wX ?_)
  obtain ⟨r, he, hr⟩ := count_ent (.mk k n f l) hfit [.box (tV (.mk k n f l)), .box [.int .i64 0, .int .i64 0]] 1 0 0 1 rfl (by omega) (by omega) (by omega) (by omega) (by omega) (by omega)
  obtain ⟨d2, hcall, hd2⟩ := call_eff he hr.pan (by decide) rfl (mapM_none (x := .bp 1 0) (by simp) rfl) hr.dj (by simp)
  refine zF (step_call rfl rfl hcall) ?_
  repeat (first | refine zE ?_ | refine zP ?_ | refine zD ?_ | refine zQ ?_ | refine zR ?_ | refine zS ?_ | refine wN ?_ | refine wM ?_ | refine wR ?_ | refine wS ?_ | refine wB ?_ | refine wG ?_ | refine wD ?_ | refine wY ?_ | refine wZ ?_ | refine wK ?_ | refine wT ?_ | refine wX ?_)
  have hbx := hr.box
  have hb0 : r.H[0]? = some (.box (tV (.mk k n f l))) := by rw [hr.same 0 (by simp) (by decide)]; rfl
  have hov := overP_cnt (.mk k n f l)
  generalize cP (.mk k n f l) 1 (0, 0) = p at hbx hov
  obtain ⟨c, dp⟩ := p
  refine zF (step_call rfl rfl ((over_fn r.H 1 c dp hbx).call (by decide) rfl (mapM_none (x := .bp 1 0) (by simp) rfl))) ?_
  rw [hov]
  cases h1 : (cntT (.mk k n f l) 2000 1).2
  case false =>
    repeat (first | refine zE ?_ | refine zP ?_ | refine zD ?_ | refine zQ ?_ | refine zR ?_ | refine zS ?_ | refine wN ?_ | refine wM ?_ | refine wR ?_ | refine wS ?_ | refine wB ?_ | refine wG ?_ | refine wD ?_ | refine wY ?_ | refine wZ ?_ | refine wK ?_ | refine wT ?_ | refine wX ?_)
    exact ⟨.inr rfl, _, rfl, rfl⟩
  repeat (first | refine zL hb0 ?_ | refine zM hb0 ?_ | refine zO hb0 ?_ | refine zE ?_ | refine zP ?_ | refine zD ?_ | refine zQ ?_ | refine zR ?_ | refine zS ?_ | refine wN ?_ | refine wM ?_ | refine wR ?_ | refine wS ?_ | refine wB ?_ | refine wG ?_ | refine wD ?_ | refine wY ?_ | refine wZ ?_ | refine wK ?_ | refine wT ?_ | refine wX ?_)
  refine zF (step_call rfl rfl ((shaped_fn (.mk k n f l) hfit).cl)) ?_
  repeat (first | refine zE ?_ | refine zP ?_ | refine zD ?_ | refine zQ ?_ | refine zR ?_ | refine zS ?_ | refine wN ?_ | refine wM ?_ | refine wR ?_ | refine wS ?_ | refine wB ?_ | refine wG ?_ | refine wD ?_ | refine wY ?_ | refine wZ ?_ | refine wK ?_ | refine wT ?_ | refine wX ?_)
  exact ⟨.inr rfl, _, rfl, rfl⟩
theorem F185 : cfg.F 185 = some Tryz.f185 := rfl
theorem tree_fn (t : T) (hfit : t.Fit) : Fn 185 [.agg (tV t)] (.int .i64 (if treeB t then 0 else 4)) := by
  obtain ⟨k, n, f, l⟩ := t
  refine Fn.of_wp F185 rfl ?_
  simp only [show Tryz.f185.ntmps = 6 from rfl, List.length_cons, List.length_nil, List.replicate, List.cons_append, List.nil_append]
  repeat (first | refine zE ?_ | refine zP ?_ | refine zD ?_ | refine zQ ?_ | refine zR ?_ | refine zS ?_ | refine wN ?_ | refine wM ?_ | refine wR ?_ | refine wS ?_ | refine wB ?_ | refine wG ?_ | refine wD ?_ | refine wY ?_ | refine wZ ?_ | refine wK ?_ | refine wT ?_ | refine wX ?_)
  refine zF (step_call rfl rfl ((isTree_fn (.mk k n f l) hfit).cl)) ?_
  cases h1 : treeB (.mk k n f l)
  · repeat (first | refine zE ?_ | refine zP ?_ | refine zD ?_ | refine zQ ?_ | refine zR ?_ | refine zS ?_ | refine wN ?_ | refine wM ?_ | refine wR ?_ | refine wS ?_ | refine wB ?_ | refine wG ?_ | refine wD ?_ | refine wY ?_ | refine wZ ?_ | refine wK ?_ | refine wT ?_ | refine wX ?_)
    exact ⟨.inr rfl, _, rfl, rfl⟩
  · repeat (first | refine zE ?_ | refine zP ?_ | refine zD ?_ | refine zQ ?_ | refine zR ?_ | refine zS ?_ | refine wN ?_ | refine wM ?_ | refine wR ?_ | refine wS ?_ | refine wB ?_ | refine wG ?_ | refine wD ?_ | refine wY ?_ | refine wZ ?_ | refine wK ?_ | refine wT ?_ | refine wX ?_)
    exact ⟨.inr rfl, _, rfl, rfl⟩
theorem F266 : cfg.F 266 = some Tryz.f266 := rfl
theorem trees1_fn (t : T) (hfit : t.Fit) : Fn 266 [.agg (tV t)] (.bool !(treeB t)) := by
  obtain ⟨k, n, f, l⟩ := t
  refine Fn.of_wp F266 rfl ?_
  simp only [show Tryz.f266.ntmps = 6 from rfl, List.length_cons, List.length_nil, List.replicate, List.cons_append, List.nil_append]
  repeat (first | refine zE ?_ | refine zP ?_ | refine zD ?_ | refine zQ ?_ | refine zR ?_ | refine zS ?_ | refine wN ?_ | refine wM ?_ | refine wR ?_ | refine wS ?_ | refine wB ?_ | refine wG ?_ | refine wD ?_ | refine wY ?_ | refine wZ ?_ | refine wK ?_ | refine wT ?_ | refine wX ?_)
  refine zF (step_call rfl rfl ((isTree_fn (.mk k n f l) hfit).cl)) ?_
  repeat (first | refine zE ?_ | refine zP ?_ | refine zD ?_ | refine zQ ?_ | refine zR ?_ | refine zS ?_ | refine wN ?_ | refine wM ?_ | refine wR ?_ | refine wS ?_ | refine wB ?_ | refine wG ?_ | refine wD ?_ | refine wY ?_ | refine wZ ?_ | refine wK ?_ | refine wT ?_ | refine wX ?_)
  exact ⟨.inr rfl, _, rfl, rfl⟩
theorem F237 : cfg.F 237 = some Tryz.f237 := rfl
theorem trees_fn (l : List T) (f : Bool) (hl : l.length ≤ 9223372036854775807) (hfit : ∀ x, x ∈ l → x.Fit) : Fn 237 [.sl l.length f (rows tV l)] (.int .i64 (if l.all treeB then 0 else 4)) := by
  obtain ⟨r, he, hq⟩ := hasT_ent l f 266 [] (fun x => !(treeB x)) [] hl rfl rfl (.inl ⟨rfl, rfl⟩) fun x hx => (trees1_fn x (hfit x hx)).cf (by decide) rfl (by simp [V.flats, V.flat, flat_tV, flat_sV, flat_ints, flat_oV, flat_eV, flat_yV, flat_strs, flats_rows flat_tV, flats_rows flat_oV, flats_rows flat_eV, flats_rows flat_yV]) _
  refine Fn.of_wp F237 rfl ?_
  simp only [show Tryz.f237.ntmps = 5 from rfl, List.length_cons, List.length_nil, List.replicate, List.cons_append, List.nil_append]
  repeat (first | refine zE ?_ | refine zP ?_ | refine zD ?_ | refine zQ ?_ | refine zR ?_ | refine zS ?_ | refine wN ?_ | refine wM ?_ | refine wR ?_ | refine wS ?_ | refine wB ?_ | refine wG ?_ | refine wD ?_ | refine wY ?_ | refine wZ ?_ | refine wK ?_ | refine wT ?_ | refine wX ?_)
  refine zF (step_call rfl rfl ((hq.fn he rfl rfl).cl)) ?_
  rw [← any_not]
  cases h1 : l.any (fun x => !(treeB x))
  · repeat (first | refine zE ?_ | refine zP ?_ | refine zD ?_ | refine zQ ?_ | refine zR ?_ | refine zS ?_ | refine wN ?_ | refine wM ?_ | refine wR ?_ | refine wS ?_ | refine wB ?_ | refine wG ?_ | refine wD ?_ | refine wY ?_ | refine wZ ?_ | refine wK ?_ | refine wT ?_ | refine wX ?_)
    exact ⟨.inr rfl, _, rfl, rfl⟩
  · repeat (first | refine zE ?_ | refine zP ?_ | refine zD ?_ | refine zQ ?_ | refine zR ?_ | refine zS ?_ | refine wN ?_ | refine wM ?_ | refine wR ?_ | refine wS ?_ | refine wB ?_ | refine wG ?_ | refine wD ?_ | refine wY ?_ | refine wZ ?_ | refine wK ?_ | refine wT ?_ | refine wX ?_)
    exact ⟨.inr rfl, _, rfl, rfl⟩
end Go.Av
