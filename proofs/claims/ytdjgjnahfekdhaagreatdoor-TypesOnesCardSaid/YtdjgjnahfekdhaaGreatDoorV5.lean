/- The law over the evaluator, and what is read of the heap as data. Conditions: none beyond the hypotheses of each theorem. -/
import Derived.Test.YtdjgjnahfekdhaaGreatDoorV4
import Derived.Test.YtdjgjnahfekdhaaGreatDoorV3
import Derived.Test.YtdjgjnahfekdhaaGreatDoorP5
import Derived.ChangeArms
import Derived.DataReads
import Derived.Deep.Slices
set_option linter.unusedSectionVars false
set_option linter.unusedVariables false
set_option linter.unusedSimpArgs false
namespace Go.Av
open Go.Proofs
set_option maxRecDepth 100000
mutual
theorem sameT_refl : ∀ t : T, sameT t t = true
  | .mk k n f l => by rw [sameT, sameL_refl l]; simp
theorem sameL_refl : ∀ l : List T, sameL l l = true
  | [] => by rw [sameL]
  | t :: l => by rw [sameL, sameT_refl t, sameL_refl l]; rfl
end
theorem eqL_refl {α : Type} {eq : α → α → Bool} (h : ∀ x, eq x x = true) : ∀ l : List α, eqL eq l l = true
  | [] => rfl
  | x :: l => by rw [eqL, h, eqL_refl h l]; rfl
theorem eqnSame_refl (e : Eq2) : eqnSame e e = true := by
  unfold eqnSame
  rw [sameT_refl, sameT_refl, eqL_refl (fun c => by unfold cSame; rw [sameT_refl, sameT_refl]; rfl)]
  simp
theorem opSame_refl (o : O) : opSame o o = true := by
  unfold opSame
  rw [strEq_iff.2 rfl]
  simp
theorem tySame_refl (t : Ty) : tySame t t = true := by
  unfold tySame sigSame
  rw [eqL_refl (fun x => strEq_iff.2 rfl), eqL_refl opSame_refl, eqL_refl eqnSame_refl]
  simp
theorem fits_of : ∀ {l : List T}, (∀ x, x ∈ l → x.Fit) → T.Fits l
  | [], _ => by rw [T.Fits]; trivial
  | t :: l, h => by
    rw [T.Fits]
    exact ⟨h t (by simp), fits_of fun x hx => h x (by simp [hx])⟩
theorem renT_fit (vs : List Int) : ∀ t : T, t.Fit → (renT vs t).Fit := by
  refine T_ind ?_
  intro k n f l ih hf
  rw [renT]
  have hf2 := hf
  rw [T.Fit] at hf
  split
  · split
    · rw [T.Fit, T.Fits]; simp
    · exact hf2
  · rw [T.Fit, renL_map]
    refine ⟨by simpa using hf.1, fits_of fun x hx => ?_⟩
    obtain ⟨y, hy, rfl⟩ := List.mem_map.1 hx
    exact ih y hy (hf.2.at hy)
theorem stdE_fit (e : Eq2) (he : e.Fit) : (stdE e).Fit := by
  have hvl := varsA_len [e.a] (by simp)
  refine ⟨?_, ?_, renT_fit _ _ he.a, renT_fit _ _ he.b, fun j c hj => ?_⟩
  · unfold stdE; simp; omega
  · unfold stdE; simpa using he.conds
  · unfold stdE at hj
    rw [List.getElem?_map] at hj
    cases hc : e.conds[j]? with
    | none => rw [hc] at hj; cases hj
    | some d =>
      rw [hc] at hj
      cases hj
      have := he.cond j d hc
      exact ⟨renT_fit _ _ this.1, renT_fit _ _ this.2⟩
theorem stdV_form (s : S) (e : Eq2) (he : e.Fit) : ∃ (g : Eq2) (er : Int), stdV s e = .tup [.agg (eV g), .int .i64 er] ∧ g.Fit := by
  unfold stdV
  split
  · exact ⟨stdE e, 0, rfl, stdE_fit e he⟩
  · refine ⟨⟨[], true, [], true, .mk 0 0 true [], .mk 0 0 true []⟩, 5, rfl, ⟨by simp, by simp, ?_, ?_, fun j c hj => by simp at hj⟩⟩
    · rw [T.Fit, T.Fits]; simp
    · rw [T.Fit, T.Fits]; simp
theorem sane_fn : Fn 15 [] (.bool true) := by
  obtain ⟨H, d, h⟩ := sane_W
  exact ⟨_, by rw [E_eq]; exact h, rfl, rfl⟩
theorem F7 : cfg.F 7 = some Tryz.f7 := rfl
set_option maxHeartbeats 16000000 in
theorem ones_fn (a b : Ty) (e : Eq2) (ha : a.Fit) (hb : b.Fit) (he : e.Fit) (hra : a.Rng) (hre : e.Rng) : Fn 7 [.agg (yV a), .agg (yV b), .agg (eV e)] (.bool true) := by
  obtain ⟨vs, fv, cs, fc, ⟨k1, n1, f1, l1⟩, ⟨k2, n2, f2, l2⟩⟩ := e
  refine Fn.of_wp F7 rfl ?_
  simp only [show Tryz.f7.ntmps = 61 from rfl, List.length_cons, List.length_nil, List.replicate, List.cons_append, List.nil_append]
  repeat (first | refine zE ?_ | refine zP ?_ | refine zD ?_ | refine zQ ?_ | refine zR ?_ | refine zS ?_ | refine wN ?_ | refine wM ?_ | refine wR ?_ | refine wS ?_ | refine wB ?_ | refine wG ?_ | refine wD ?_ | refine wY ?_ | refine wZ ?_ | refine wK ?_ | refine wT ?_ | refine wX ?_)
  refine zF (step_call rfl rfl (sane_fn.call (by decide) rfl rfl _)) ?_
  repeat (first | refine zE ?_ | refine zP ?_ | refine zD ?_ | refine zQ ?_ | refine zR ?_ | refine zS ?_ | refine wN ?_ | refine wM ?_ | refine wR ?_ | refine wS ?_ | refine wB ?_ | refine wG ?_ | refine wD ?_ | refine wY ?_ | refine wZ ?_ | refine wK ?_ | refine wT ?_ | refine wX ?_)
  refine zF (step_call rfl rfl ((few_fn [a, b] true (by simp)).cl)) ?_
  cases h1 : (!([a, b].any overB))
  case false =>
    repeat (first | refine zE ?_ | refine zP ?_ | refine zD ?_ | refine zQ ?_ | refine zR ?_ | refine zS ?_ | refine wN ?_ | refine wM ?_ | refine wR ?_ | refine wS ?_ | refine wB ?_ | refine wG ?_ | refine wD ?_ | refine wY ?_ | refine wZ ?_ | refine wK ?_ | refine wT ?_ | refine wX ?_)
    exact ⟨.inr rfl, _, rfl, rfl⟩
  obtain ⟨g, er, hg, hgf⟩ := stdV_form a.sig ⟨vs, fv, cs, fc, .mk k1 n1 f1 l1, .mk k2 n2 f2 l2⟩ he
  have hs1 := standardP_fn a.sig ⟨vs, fv, cs, fc, .mk k1 n1 f1 l1, .mk k2 n2 f2 l2⟩ ha.sig he hre
  have hs2 := standard5_fn a.sig ⟨vs, fv, cs, fc, .mk k1 n1 f1 l1, .mk k2 n2 f2 l2⟩ ha.sig he
  rw [hg] at hs1 hs2
  repeat (first | refine zE ?_ | refine zP ?_ | refine zD ?_ | refine zQ ?_ | refine zR ?_ | refine zS ?_ | refine wN ?_ | refine wM ?_ | refine wR ?_ | refine wS ?_ | refine wB ?_ | refine wG ?_ | refine wD ?_ | refine wY ?_ | refine wZ ?_ | refine wK ?_ | refine wT ?_ | refine wX ?_)
  refine zF (step_call rfl rfl (hs1.call (by decide) rfl (by simp [V.flats, V.flat, flat_tV, flat_sV, flat_ints, flat_oV, flat_eV, flat_yV, flat_strs, flats_rows flat_tV, flats_rows flat_cV, flats_rows flat_oV, flats_rows flat_eV, flats_rows flat_yV]) _)) ?_
  repeat (first | refine zE ?_ | refine zP ?_ | refine zD ?_ | refine zQ ?_ | refine zR ?_ | refine zS ?_ | refine wN ?_ | refine wM ?_ | refine wR ?_ | refine wS ?_ | refine wB ?_ | refine wG ?_ | refine wD ?_ | refine wY ?_ | refine wZ ?_ | refine wK ?_ | refine wT ?_ | refine wX ?_)
  refine run_store (k := 3) (v := .agg (eV g)) rfl rfl rfl rfl rfl (eV_one g) (eV_len g) rfl (cs := zero8) (cs' := eV g) (splice_full (eV_len g).symm) (by dsimp only [putTm, List.set]) ?_
  intro H2 hl2 hb3 ho2
  have hb0 : H2[0]? = some (.box (yV a)) := by rw [ho2 0 (by decide)]; rfl
  have hb1 : H2[1]? = some (.box (yV b)) := by rw [ho2 1 (by decide)]; rfl
  have hb2 : H2[2]? = some (.box (eV ⟨vs, fv, cs, fc, .mk k1 n1 f1 l1, .mk k2 n2 f2 l2⟩)) := by rw [ho2 2 (by decide)]; rfl
  clear ho2
  repeat (first | refine zL hb0 ?_ | refine zM hb0 ?_ | refine zO hb0 ?_ | refine zL hb2 ?_ | refine zM hb2 ?_ | refine zO hb2 ?_ | refine zE ?_ | refine zP ?_ | refine zD ?_ | refine zQ ?_ | refine zR ?_ | refine zS ?_ | refine wN ?_ | refine wM ?_ | refine wR ?_ | refine wS ?_ | refine wB ?_ | refine wG ?_ | refine wD ?_ | refine wY ?_ | refine wZ ?_ | refine wK ?_ | refine wT ?_ | refine wX ?_)
  refine zF (step_call rfl rfl (hs2.call (by decide) rfl (by simp [V.flats, V.flat, flat_tV, flat_sV, flat_ints, flat_oV, flat_eV, flat_yV, flat_strs, flats_rows flat_tV, flats_rows flat_cV, flats_rows flat_oV, flats_rows flat_eV, flats_rows flat_yV]) _)) ?_
  repeat (first | refine zE ?_ | refine zP ?_ | refine zD ?_ | refine zQ ?_ | refine zR ?_ | refine zS ?_ | refine wN ?_ | refine wM ?_ | refine wR ?_ | refine wS ?_ | refine wB ?_ | refine wG ?_ | refine wD ?_ | refine wY ?_ | refine wZ ?_ | refine wK ?_ | refine wT ?_ | refine wX ?_)
  refine run_store (k := H2.length) (v := .agg (eV g)) rfl rfl rfl rfl rfl (eV_one g) (eV_len g) (cs := zero8) (by rw [List.getElem?_append_right (Nat.le_refl _), Nat.sub_self]; rfl) (cs' := eV g) (splice_full (eV_len g).symm) (by dsimp only [putTm, List.set]) ?_
  intro H4 hl4 hb94 ho4
  have g0 := get_lt hb0
  have g1 := get_lt hb1
  have g3 := get_lt hb3
  have hb04 : H4[0]? = some (.box (yV a)) := by rw [ho4 0 (by omega), List.getElem?_append_left g0]; exact hb0
  have hb14 : H4[1]? = some (.box (yV b)) := by rw [ho4 1 (by omega), List.getElem?_append_left g1]; exact hb1
  have hb34 : H4[3]? = some (.box (eV g)) := by rw [ho4 3 (by omega), List.getElem?_append_left g3]; exact hb3
  clear hb0 hb1 hb2 hb3 ho4
  repeat (first | refine zL hb04 ?_ | refine zM hb04 ?_ | refine zO hb04 ?_ | refine zE ?_ | refine zP ?_ | refine zD ?_ | refine zQ ?_ | refine zR ?_ | refine zS ?_ | refine wN ?_ | refine wM ?_ | refine wR ?_ | refine wS ?_ | refine wB ?_ | refine wG ?_ | refine wD ?_ | refine wY ?_ | refine wZ ?_ | refine wK ?_ | refine wT ?_ | refine wX ?_)
  refine zG (step_call rfl rfl ((checkT_fn a ha hra).cl)) ?_
  repeat (first | refine zL hb04 ?_ | refine zM hb04 ?_ | refine zO hb04 ?_ | refine zE ?_ | refine zP ?_ | refine zD ?_ | refine zQ ?_ | refine zR ?_ | refine zS ?_ | refine wN ?_ | refine wM ?_ | refine wR ?_ | refine wS ?_ | refine wB ?_ | refine wG ?_ | refine wD ?_ | refine wY ?_ | refine wZ ?_ | refine wK ?_ | refine wT ?_ | refine wX ?_)
  refine zG (step_call rfl rfl ((check5_fn a ha).cl)) ?_
  generalize (if typeB a then (0 : Int) else 5) = cv
  repeat (first | refine zE ?_ | refine zP ?_ | refine zD ?_ | refine zQ ?_ | refine zR ?_ | refine zS ?_ | refine wN ?_ | refine wM ?_ | refine wR ?_ | refine wS ?_ | refine wB ?_ | refine wG ?_ | refine wD ?_ | refine wY ?_ | refine wZ ?_ | refine wK ?_ | refine wT ?_ | refine wX ?_)
  rw [beq_self_eq_true]
  repeat (first | refine zL hb04 ?_ | refine zM hb04 ?_ | refine zO hb04 ?_ | refine zL hb14 ?_ | refine zM hb14 ?_ | refine zO hb14 ?_ | refine zE ?_ | refine zP ?_ | refine zD ?_ | refine zQ ?_ | refine zR ?_ | refine zS ?_ | refine wN ?_ | refine wM ?_ | refine wR ?_ | refine wS ?_ | refine wB ?_ | refine wG ?_ | refine wD ?_ | refine wY ?_ | refine wZ ?_ | refine wK ?_ | refine wT ?_ | refine wX ?_)
  refine zG (step_call rfl rfl ((sameTP_fn a b ha hb).cl)) ?_
  repeat (first | refine zL hb04 ?_ | refine zM hb04 ?_ | refine zO hb04 ?_ | refine zL hb14 ?_ | refine zM hb14 ?_ | refine zO hb14 ?_ | refine zE ?_ | refine zP ?_ | refine zD ?_ | refine zQ ?_ | refine zR ?_ | refine zS ?_ | refine wN ?_ | refine wM ?_ | refine wR ?_ | refine wS ?_ | refine wB ?_ | refine wG ?_ | refine wD ?_ | refine wY ?_ | refine wZ ?_ | refine wK ?_ | refine wT ?_ | refine wX ?_)
  refine zG (step_call rfl rfl ((same5_fn a b ha hb).cl)) ?_
  generalize tySame a b = sv
  repeat (first | refine zE ?_ | refine zP ?_ | refine zD ?_ | refine zQ ?_ | refine zR ?_ | refine zS ?_ | refine wN ?_ | refine wM ?_ | refine wR ?_ | refine wS ?_ | refine wB ?_ | refine wG ?_ | refine wD ?_ | refine wY ?_ | refine wZ ?_ | refine wK ?_ | refine wT ?_ | refine wX ?_)
  rw [beq_self_eq_true]
  repeat (first | refine zL hb04 ?_ | refine zM hb04 ?_ | refine zO hb04 ?_ | refine zE ?_ | refine zP ?_ | refine zD ?_ | refine zQ ?_ | refine zR ?_ | refine zS ?_ | refine wN ?_ | refine wM ?_ | refine wR ?_ | refine wS ?_ | refine wB ?_ | refine wG ?_ | refine wD ?_ | refine wY ?_ | refine wZ ?_ | refine wK ?_ | refine wT ?_ | refine wX ?_)
  refine zG (step_call rfl rfl ((sameTP_fn a a ha ha).cl)) ?_
  rw [tySame_refl]
  repeat (first | refine zE ?_ | refine zP ?_ | refine zD ?_ | refine zQ ?_ | refine zR ?_ | refine zS ?_ | refine wN ?_ | refine wM ?_ | refine wR ?_ | refine wS ?_ | refine wB ?_ | refine wG ?_ | refine wD ?_ | refine wY ?_ | refine wZ ?_ | refine wK ?_ | refine wT ?_ | refine wX ?_)
  rw [beq_self_eq_true]
  repeat (first | refine zE ?_ | refine zP ?_ | refine zD ?_ | refine zQ ?_ | refine zR ?_ | refine zS ?_ | refine wN ?_ | refine wM ?_ | refine wR ?_ | refine wS ?_ | refine wB ?_ | refine wG ?_ | refine wD ?_ | refine wY ?_ | refine wZ ?_ | refine wK ?_ | refine wT ?_ | refine wX ?_)
  refine zG (step_load (v := .agg (eV g)) rfl rfl rfl hb34 (part_full rfl (eV_len g).symm)) ?_
  refine zG (step_load (v := .agg (eV g)) rfl rfl rfl hb94 (part_full rfl (eV_len g).symm)) ?_
  refine zG (step_call rfl rfl ((sameEqn_fn g g hgf hgf).cl)) ?_
  rw [eqnSame_refl]
  repeat (first | refine zE ?_ | refine zP ?_ | refine zD ?_ | refine zQ ?_ | refine zR ?_ | refine zS ?_ | refine wN ?_ | refine wM ?_ | refine wR ?_ | refine wS ?_ | refine wB ?_ | refine wG ?_ | refine wD ?_ | refine wY ?_ | refine wZ ?_ | refine wK ?_ | refine wT ?_ | refine wX ?_)
  exact ⟨.inr rfl, _, rfl, rfl⟩
end Go.Av
namespace Go.Av
open Go.Proofs
set_option maxRecDepth 100000
open Go.RowKit
def ctx0 (w : World) : Ctx := ⟨w.heap.size, w.heap.size, fun _ _ => False, fun _ => 0⟩
theorem rh0 (w : World) : RH (ctx0 w) [] w :=
  ⟨Nat.le_refl _, Nat.le_refl _, fun _ _ h => h.elim, fun t o h => by simp at h, fun t u o o' h => by simp at h⟩
theorem cell_block {w : World} {a : Addr} {v : Value} (h : w.cell? a = some v) : a.block < w.heap.size ∧ a.spot = none := by
  unfold World.cell? at h
  split at h
  · rename_i hb
    refine ⟨?_, ?_⟩
    · rcases Nat.lt_or_ge a.block w.heap.size with h1 | h1
      · exact h1
      · rw [Array.getElem?_eq_none h1] at hb; cases hb
    · cases hs : a.spot with
      | none => rfl
      | some s => rw [hs] at h; simp at h
  · cases h
theorem add_spot {a : Addr} (h : a.spot = none) (n : Nat) : a.add n = ⟨a.block, a.off + n, none⟩ := by
  unfold Addr.add
  split
  · rename_i h0; subst h0; obtain ⟨b, o, s⟩ := a; cases h; rfl
  · rfl
theorem rows_at {α : Type} {enc : α → List V} {k : Nat} (hk : ∀ x, (enc x).length = k) {l : List α} {p : Nat} {x : V} (h : (rows enc l)[p]? = some x) : ∃ y, l[p / k]? = some y ∧ (enc y)[p % k]? = some x ∧ 0 < k := by
  have hlt := (List.getElem?_eq_some_iff.1 h).1
  rw [rows_length hk] at hlt
  have hk0 : 0 < k := Nat.pos_of_ne_zero fun e => by subst e; simp at hlt
  have hi : p / k < l.length := (Nat.div_lt_iff_lt_mul hk0).2 hlt
  obtain ⟨y, hy⟩ := get_of hi
  refine ⟨y, hy, ?_, hk0⟩
  have hd := rows_drop hk l _ hy
  have hp : p = p / k * k + p % k := by rw [Nat.mul_comm]; exact (Nat.div_add_mod p k).symm
  have h2 : ((rows enc l).drop (p / k * k))[p % k]? = some x := by rw [List.getElem?_drop, ← hp]; exact h
  rw [hd] at h2
  rwa [List.getElem?_append_left (by rw [hk]; exact Nat.mod_lt _ hk0)] at h2
section
variable {H : Type} {en : TypeId × Value → H} {w : World} {spare : Nat → Bool} {held : Bool}
def Rd {H : Type} (en : TypeId × Value → H) (w : World) (spare : Nat → Bool) (held : Bool) {α : Type} (t : TypeId) (enc : α → List V) (fit : α → Prop) (n : Nat) : Prop :=
  ∀ cs y, DataW.trod en Tryz.prog w 0 spare held n t cs = some y → ∃ x : α, RVs (ctx0 w) [] w (enc x) cs ∧ fit x
theorem list_of {α : Type} {n : Nat} {Q : Nat → α → Prop} (h : ∀ i, i < n → ∃ x, Q i x) : ∃ l : List α, l.length = n ∧ ∀ i x, l[i]? = some x → Q i x := by
  induction n with
  | zero => exact ⟨[], rfl, fun i x hx => by simp at hx⟩
  | succ n ih =>
    obtain ⟨l, h1, h2⟩ := ih fun i hi => h i (by omega)
    obtain ⟨x, hx⟩ := h n (by omega)
    refine ⟨l ++ [x], by simp [h1], fun i z hz => ?_⟩
    rcases Nat.lt_or_ge i n with hi | hi
    · rw [List.getElem?_append_left (by omega)] at hz
      exact h2 i z hz
    · rw [List.getElem?_append_right (by omega)] at hz
      have : i - l.length = 0 := by
        have := (List.getElem?_eq_some_iff.1 hz).1
        simp at this; omega
      rw [this] at hz
      simp at hz
      subst hz
      rw [show i = n by omega]
      exact hx
theorem rd_slice {α : Type} {enc : α → List V} {fit : α → Prop} {t e : TypeId} {k : Nat} (ht : Tryz.prog.underlying t = some (.slice e)) (hc : Tryz.prog.cellsOf e = k) (hk0 : 0 < k) (hk : ∀ x, (enc x).length = k) {n : Nat}
    (hr : ∀ m, m < n → Rd en w spare held e enc fit m) {cs : List Value} {y : DataW H × List MemPlace} (h : DataW.trod en Tryz.prog w 0 spare held n t cs = some y) :
    ∃ (l : List α) (f : Bool), RVs (ctx0 w) [] w [.sl l.length f (rows enc l)] cs ∧ l.length ≤ 9223372036854775807 ∧ ∀ x, x ∈ l → fit x := by
  rcases DataW.trod_slice ht h with ⟨rfl, _⟩ | ⟨a, len, cap, elems, rest, m, rfl, rfl, _, _, hl, hm, hel, hx, _, _⟩
  · refine ⟨[], true, ?_, by simp, fun x hx => by cases hx⟩
    simp only [RVs, RV]
    exact ⟨_, _, rfl, ⟨none, 0, rfl, Nat.le_refl _, fun _ => rfl, fun _ => ⟨rfl, rfl⟩, fun x hx => by cases hx⟩, rfl⟩
  · have each : ∀ i, i < len → ∃ x : α, ∃ cs', w.cells? 0 (a.add (i * k)) k = some cs' ∧ RVs (ctx0 w) [] w (enc x) cs' ∧ fit x := by
      intro i hi
      have h1 := hx i hi
      rw [hc] at h1
      obtain ⟨z, hz⟩ := get_of (show i < elems.length by omega)
      rw [hz, Option.bind_eq_some_iff] at h1
      obtain ⟨cs', h2, h3⟩ := h1
      obtain ⟨x, h4, h5⟩ := hr m (Nat.lt_succ_self m) cs' z h3
      exact ⟨x, cs', h2, h4, h5⟩
    obtain ⟨l, hll, hl2⟩ := list_of each
    have hmx : maxLen ≤ 9223372036854775807 := by decide
    have hcell : ∀ i x, l[i]? = some x → ∃ cs' : List Value, cs'.length = k ∧ RVs (ctx0 w) [] w (enc x) cs' ∧ ∀ j, j < k → w.cell? (a.add (i * k + j)) = cs'[j]? := by
      intro i x hx
      obtain ⟨cs', h1, h2, _⟩ := hl2 i x hx
      obtain ⟨_, h3, h4⟩ := World.cells?_some h1
      refine ⟨cs', h3, h2, fun j hj => ?_⟩
      have := h4 j hj
      rw [Go.Deep.add_add] at this
      exact this
    have hsp : 0 < len → a.spot = none := by
      intro h0
      obtain ⟨x, hx0⟩ := get_of (show 0 < l.length by omega)
      obtain ⟨cs', h1, h2, h3⟩ := hcell 0 x hx0
      obtain ⟨v, hv⟩ := get_of (show 0 < cs'.length by omega)
      have h4 := h3 0 hk0
      rw [hv, show a.add (0 * k + 0) = a by simp [Addr.add]] at h4
      exact (cell_block h4).2
    refine ⟨l, false, ?_, by omega, fun x hx => ?_⟩
    · simp only [RVs, RV]
      refine ⟨_, _, rfl, ⟨some a, cap, by rw [hll], by omega, fun h => (by cases h), fun h => (by cases h), fun b hb => ?_⟩, rfl⟩
      cases hb
      refine ⟨fun h0 => hsp (by omega), RVat_of fun p v hp => ?_⟩
      obtain ⟨x, hx, hxp, _⟩ := rows_at hk hp
      obtain ⟨cs', h1, h2, h3⟩ := hcell _ x hx
      have hj : p % k < k := Nat.mod_lt _ hk0
      have h4 := h3 _ hj
      rw [show p / k * k + p % k = p by rw [Nat.mul_comm]; exact Nat.div_add_mod p k] at h4
      obtain ⟨u, hu, hru⟩ := RVs_get h2 hxp
      rw [hu] at h4
      have hlen : 0 < len := by rw [← hll]; exact Nat.lt_of_le_of_lt (Nat.zero_le _) (List.getElem?_eq_some_iff.1 hx).1
      rw [add_spot (hsp hlen)] at h4
      exact ⟨.inl (cell_block h4).1, u, h4, hru⟩
    · obtain ⟨i, hi⟩ := List.getElem?_of_mem hx
      obtain ⟨_, _, _, h3⟩ := hl2 i x hi
      exact h3
theorem rd_int {n : Nat} {cs : List Value} {y : DataW H × List MemPlace} (h : DataW.trod en Tryz.prog w 0 spare held n 3 cs = some y) : ∃ k : Int, cs = [.int .i64 k] ∧ -9223372036854775808 ≤ k ∧ k ≤ 9223372036854775807 := by
  obtain ⟨k, h1, _, h3⟩ := DataW.trod_int Tryz.underlying3 h
  simp only [Lit.wf, Bool.and_eq_true, decide_eq_true_eq] at h3
  exact ⟨k, h1, h3.1, h3.2⟩
theorem rd_str {n : Nat} {cs : List Value} {y : DataW H × List MemPlace} (h : DataW.trod en Tryz.prog w 0 spare held n 9 cs = some y) : ∃ s : ByteArray, cs = [.string s] ∧ s.size ≤ 9223372036854775807 := by
  obtain ⟨s, h1, _, h3⟩ := DataW.trod_string Tryz.underlying9 h
  have hmx : maxLen ≤ 9223372036854775807 := by decide
  exact ⟨s, h1, by omega⟩
theorem rd_intR (n : Nat) : Rd en w spare held 3 intV (fun _ => True) n := fun cs y h => by
  obtain ⟨k, rfl, _⟩ := rd_int h
  exact ⟨k, by simp only [RVs, RV]; exact ⟨_, _, rfl, rfl, rfl⟩, trivial⟩
theorem rd_strR (n : Nat) : Rd en w spare held 9 strV (fun s => s.size ≤ 9223372036854775807) n := fun cs y h => by
  obtain ⟨s, rfl, hs⟩ := rd_str h
  exact ⟨s, by simp only [RVs, RV]; exact ⟨_, _, rfl, rfl, rfl⟩, hs⟩
theorem rngL_of : ∀ {l : List T}, (∀ x, x ∈ l → x.Rng) → rngL l
  | [], _ => by rw [rngL]; trivial
  | t :: l, h => by
    rw [rngL]
    exact ⟨h t (by simp), rngL_of fun x hx => h x (by simp [hx])⟩
theorem rvs_app {c : Ctx} {H : Heap} {w : World} : ∀ {xs ys : List V} {us vs : List Value}, RVs c H w xs us → RVs c H w ys vs → RVs c H w (xs ++ ys) (us ++ vs)
  | [], ys, us, vs, h1, h2 => by
    simp only [RVs] at h1
    subst h1
    exact h2
  | x :: xs, ys, us, vs, h1, h2 => by
    simp only [RVs] at h1
    obtain ⟨u, us', rfl, h3, h4⟩ := h1
    simp only [List.cons_append, RVs]
    exact ⟨u, us' ++ vs, rfl, h3, rvs_app h4 h2⟩
theorem rvs_cons {c : Ctx} {H : Heap} {w : World} {x : V} {u : Value} {xs : List V} {us : List Value} (h1 : RVs c H w [x] [u]) (h2 : RVs c H w xs us) : RVs c H w (x :: xs) (u :: us) := rvs_app h1 h2
theorem cells62 : Tryz.prog.cellsOf 62 = 3 := by kernel_rfl
theorem cells3 : Tryz.prog.cellsOf 3 = 1 := by kernel_rfl
theorem cells9 : Tryz.prog.cellsOf 9 = 1 := by kernel_rfl
theorem cells60 : Tryz.prog.cellsOf 60 = 1 := by kernel_rfl
theorem cells27 : Tryz.prog.cellsOf 27 = 1 := by kernel_rfl
theorem cells28 : Tryz.prog.cellsOf 28 = 1 := by kernel_rfl
theorem cells29 : Tryz.prog.cellsOf 29 = 1 := by kernel_rfl
theorem cells32 : Tryz.prog.cellsOf 32 = 1 := by kernel_rfl
theorem cells59 : Tryz.prog.cellsOf 59 = 1 := by kernel_rfl
theorem cells51 : Tryz.prog.cellsOf 51 = 3 := by kernel_rfl
theorem cells31 : Tryz.prog.cellsOf 31 = 2 := by kernel_rfl
theorem cells170 : Tryz.prog.cellsOf 170 = 6 := by kernel_rfl
theorem cells64 : Tryz.prog.cellsOf 64 = 8 := by kernel_rfl
theorem cells34 : Tryz.prog.cellsOf 34 = 3 := by kernel_rfl
theorem get_field {xs : List (DataW H × List MemPlace)} {i : Nat} {r : Option (DataW H × List MemPlace)} (h : r = xs[i]?) (hi : i < xs.length) : ∃ z, r = some z := by
  obtain ⟨z, hz⟩ := get_of hi
  exact ⟨z, h.trans hz⟩
theorem rd_T : ∀ n, Rd en w spare held 62 tV (fun t => t.Fit ∧ t.Rng) n := by
  intro n
  induction n using Nat.strongRecOn with
  | ind n ih =>
    intro cs y h
    obtain ⟨xs, m, rfl, _, hl, hxs, hf⟩ := DataW.trod_struct Tryz.underlying62 h
    rw [cells62] at hl
    obtain ⟨z0, h0⟩ : ∃ z, DataW.trod en Tryz.prog w 0 spare held m 3 (List.take (Tryz.prog.cellsOf 3) (List.drop 0 cs)) = some z := get_field (hf 0 _ rfl) (by rw [hxs]; decide)
    obtain ⟨z1, h1⟩ : ∃ z, DataW.trod en Tryz.prog w 0 spare held m 3 (List.take (Tryz.prog.cellsOf 3) (List.drop 1 cs)) = some z := get_field (hf 1 _ rfl) (by rw [hxs]; decide)
    obtain ⟨z2, h2⟩ : ∃ z, DataW.trod en Tryz.prog w 0 spare held m 60 (List.take (Tryz.prog.cellsOf 60) (List.drop 2 cs)) = some z := get_field (hf 2 _ rfl) (by rw [hxs]; decide)
    simp only [cells3, cells60] at h0 h1 h2
    match cs, hl with
    | [c0, c1, c2], _ =>
      simp only [List.drop_zero, List.drop_succ_cons, List.take_succ_cons, List.take_zero] at h0 h1 h2
      obtain ⟨k, e0, k1, k2⟩ := rd_int h0
      obtain ⟨a, e1, a1, a2⟩ := rd_int h1
      obtain ⟨l, f, r2, l1, l2⟩ := rd_slice Tryz.underlying60 cells62 (by decide) tV_len (fun q hq => ih q (by omega)) h2
      obtain ⟨rfl, _⟩ := List.cons.inj e0
      obtain ⟨rfl, _⟩ := List.cons.inj e1
      refine ⟨.mk k a f l, ?_, ?_, ?_⟩
      · rw [tV_mk]
        refine rvs_cons (by simp only [RVs, RV]; exact ⟨_, _, rfl, rfl, rfl⟩) (rvs_cons (by simp only [RVs, RV]; exact ⟨_, _, rfl, rfl, rfl⟩) r2)
      · rw [T.Fit]
        exact ⟨l1, fits_of fun x hx => (l2 x hx).1⟩
      · rw [T.Rng]
        exact ⟨⟨a1, a2⟩, rngL_of fun x hx => (l2 x hx).2⟩
theorem rd_O (n : Nat) : Rd en w spare held 51 oV (fun o => o.name.size ≤ 9223372036854775807 ∧ o.args.length ≤ 9223372036854775807) n := by
  intro cs y h
  obtain ⟨xs, m, rfl, _, hl, hxs, hf⟩ := DataW.trod_struct Tryz.underlying51 h
  rw [cells51] at hl
  obtain ⟨z0, h0⟩ : ∃ z, DataW.trod en Tryz.prog w 0 spare held m 9 (List.take (Tryz.prog.cellsOf 9) (List.drop 0 cs)) = some z := get_field (hf 0 _ rfl) (by rw [hxs]; decide)
  obtain ⟨z1, h1⟩ : ∃ z, DataW.trod en Tryz.prog w 0 spare held m 27 (List.take (Tryz.prog.cellsOf 27) (List.drop 1 cs)) = some z := get_field (hf 1 _ rfl) (by rw [hxs]; decide)
  obtain ⟨z2, h2⟩ : ∃ z, DataW.trod en Tryz.prog w 0 spare held m 3 (List.take (Tryz.prog.cellsOf 3) (List.drop 2 cs)) = some z := get_field (hf 2 _ rfl) (by rw [hxs]; decide)
  simp only [cells3, cells9, cells27] at h0 h1 h2
  match cs, hl with
  | [c0, c1, c2], _ =>
    simp only [List.drop_zero, List.drop_succ_cons, List.take_succ_cons, List.take_zero] at h0 h1 h2
    obtain ⟨s, e0, s1⟩ := rd_str h0
    obtain ⟨l, f, r1, l1, _⟩ := rd_slice Tryz.underlying27 cells3 (by decide) (fun _ => rfl) (fun q _ => rd_intR q) h1
    obtain ⟨k, e2, _⟩ := rd_int h2
    obtain ⟨rfl, _⟩ := List.cons.inj e0
    obtain ⟨rfl, _⟩ := List.cons.inj e2
    exact ⟨⟨s, l, f, k⟩, rvs_cons (by simp only [RVs, RV]; exact ⟨_, _, rfl, rfl, rfl⟩) (rvs_app r1 (by simp only [RVs, RV]; exact ⟨_, _, rfl, rfl, rfl⟩)), s1, l1⟩
theorem rd_S (n : Nat) : Rd en w spare held 31 sV S.Fit n := by
  intro cs y h
  obtain ⟨xs, m, rfl, _, hl, hxs, hf⟩ := DataW.trod_struct Tryz.underlying31 h
  rw [cells31] at hl
  obtain ⟨z0, h0⟩ : ∃ z, DataW.trod en Tryz.prog w 0 spare held m 28 (List.take (Tryz.prog.cellsOf 28) (List.drop 0 cs)) = some z := get_field (hf 0 _ rfl) (by rw [hxs]; decide)
  obtain ⟨z1, h1⟩ : ∃ z, DataW.trod en Tryz.prog w 0 spare held m 29 (List.take (Tryz.prog.cellsOf 29) (List.drop 1 cs)) = some z := get_field (hf 1 _ rfl) (by rw [hxs]; decide)
  simp only [cells28, cells29] at h0 h1
  match cs, hl with
  | [c0, c1], _ =>
    simp only [List.drop_zero, List.drop_succ_cons, List.take_succ_cons, List.take_zero] at h0 h1
    obtain ⟨ls, f, r0, l1, l2⟩ := rd_slice Tryz.underlying28 cells9 (by decide) (enc := strV) (fun _ => rfl) (fun q _ => rd_strR q) h0
    obtain ⟨lo, g, r1, o1, o2⟩ := rd_slice Tryz.underlying29 cells51 (by decide) (enc := oV) (fun _ => rfl) (fun q _ => rd_O q) h1
    exact ⟨⟨ls, f, lo, g⟩, rvs_app r0 r1, l1, o1, fun j b hb => l2 b (List.mem_of_getElem? hb), fun j o ho => o2 o (List.mem_of_getElem? ho)⟩
theorem rd_C (n : Nat) : Rd en w spare held 170 cV (fun c => (c.a.Fit ∧ c.b.Fit) ∧ (c.a.Rng ∧ c.b.Rng)) n := by
  intro cs y h
  obtain ⟨xs, m, rfl, _, hl, hxs, hf⟩ := DataW.trod_struct Tryz.underlying170 h
  rw [cells170] at hl
  obtain ⟨z0, h0⟩ : ∃ z, DataW.trod en Tryz.prog w 0 spare held m 62 (List.take (Tryz.prog.cellsOf 62) (List.drop 0 cs)) = some z := get_field (hf 0 _ rfl) (by rw [hxs]; decide)
  obtain ⟨z1, h1⟩ : ∃ z, DataW.trod en Tryz.prog w 0 spare held m 62 (List.take (Tryz.prog.cellsOf 62) (List.drop 3 cs)) = some z := get_field (hf 1 _ rfl) (by rw [hxs]; decide)
  simp only [cells62] at h0 h1
  match cs, hl with
  | [c0, c1, c2, c3, c4, c5], _ =>
    simp only [List.drop_zero, List.drop_succ_cons, List.take_succ_cons, List.take_zero] at h0 h1
    obtain ⟨a, r0, a1, a2⟩ := rd_T m _ _ h0
    obtain ⟨b, r1, b1, b2⟩ := rd_T m _ _ h1
    exact ⟨⟨a, b⟩, rvs_app r0 r1, ⟨a1, b1⟩, a2, b2⟩
theorem rd_E (n : Nat) : Rd en w spare held 64 eV (fun e => e.Fit ∧ e.Rng) n := by
  intro cs y h
  obtain ⟨xs, m, rfl, _, hl, hxs, hf⟩ := DataW.trod_struct Tryz.underlying64 h
  rw [cells64] at hl
  obtain ⟨z0, h0⟩ : ∃ z, DataW.trod en Tryz.prog w 0 spare held m 27 (List.take (Tryz.prog.cellsOf 27) (List.drop 0 cs)) = some z := get_field (hf 0 _ rfl) (by rw [hxs]; decide)
  obtain ⟨z1, h1⟩ : ∃ z, DataW.trod en Tryz.prog w 0 spare held m 59 (List.take (Tryz.prog.cellsOf 59) (List.drop 1 cs)) = some z := get_field (hf 1 _ rfl) (by rw [hxs]; decide)
  obtain ⟨z2, h2⟩ : ∃ z, DataW.trod en Tryz.prog w 0 spare held m 62 (List.take (Tryz.prog.cellsOf 62) (List.drop 2 cs)) = some z := get_field (hf 2 _ rfl) (by rw [hxs]; decide)
  obtain ⟨z3, h3⟩ : ∃ z, DataW.trod en Tryz.prog w 0 spare held m 62 (List.take (Tryz.prog.cellsOf 62) (List.drop 5 cs)) = some z := get_field (hf 3 _ rfl) (by rw [hxs]; decide)
  simp only [cells27, cells59, cells62] at h0 h1 h2 h3
  match cs, hl with
  | [c0, c1, c2, c3, c4, c5, c6, c7], _ =>
    simp only [List.drop_zero, List.drop_succ_cons, List.take_succ_cons, List.take_zero] at h0 h1 h2 h3
    obtain ⟨lv, f, r0, v1, _⟩ := rd_slice Tryz.underlying27 cells3 (by decide) (fun _ => rfl) (fun q _ => rd_intR q) h0
    obtain ⟨lc, g, r1, k1, k2⟩ := rd_slice Tryz.underlying59 cells170 (by decide) cV_len (fun q _ => rd_C q) h1
    obtain ⟨a, r2, a1, a2⟩ := rd_T m _ _ h2
    obtain ⟨b, r3, b1, b2⟩ := rd_T m _ _ h3
    exact ⟨⟨lv, f, lc, g, a, b⟩, rvs_app r0 (rvs_app r1 (rvs_app r2 r3)), ⟨v1, k1, a1, b1, fun j c hc => (k2 c (List.mem_of_getElem? hc)).1⟩, ⟨a2, b2, fun j c hc => (k2 c (List.mem_of_getElem? hc)).2⟩⟩
theorem rd_Y (n : Nat) : Rd en w spare held 34 yV (fun t => t.Fit ∧ t.Rng) n := by
  intro cs y h
  obtain ⟨xs, m, rfl, _, hl, hxs, hf⟩ := DataW.trod_struct Tryz.underlying34 h
  rw [cells34] at hl
  obtain ⟨z0, h0⟩ : ∃ z, DataW.trod en Tryz.prog w 0 spare held m 31 (List.take (Tryz.prog.cellsOf 31) (List.drop 0 cs)) = some z := get_field (hf 0 _ rfl) (by rw [hxs]; decide)
  obtain ⟨z1, h1⟩ : ∃ z, DataW.trod en Tryz.prog w 0 spare held m 32 (List.take (Tryz.prog.cellsOf 32) (List.drop 2 cs)) = some z := get_field (hf 1 _ rfl) (by rw [hxs]; decide)
  simp only [cells31, cells32] at h0 h1
  match cs, hl with
  | [c0, c1, c2], _ =>
    simp only [List.drop_zero, List.drop_succ_cons, List.take_succ_cons, List.take_zero] at h0 h1
    obtain ⟨s, r0, s1⟩ := rd_S m _ _ h0
    obtain ⟨le, f, r1, e1, e2⟩ := rd_slice Tryz.underlying32 cells64 (by decide) eV_len (fun q _ => rd_E q) h1
    exact ⟨⟨s, le, f⟩, rvs_app r0 r1, ⟨s1, e1, fun j e he => (e2 e (List.mem_of_getElem? he)).1⟩, ⟨fun j e he => (e2 e (List.mem_of_getElem? he)).2⟩⟩
end
end Go.Av
