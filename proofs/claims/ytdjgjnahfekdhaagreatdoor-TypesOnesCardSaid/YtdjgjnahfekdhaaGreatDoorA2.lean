/- Operations of the evaluator: reads, comparisons, slices, new objects. Conditions: none beyond the hypotheses of each theorem. -/
import Derived.Test.YtdjgjnahfekdhaaGreatDoorA1
import Derived.Great.BuildSlice
import Derived.Laws.Panics
import Derived.Laws.Strings
import Derived.Laws.MakeOwn
set_option linter.unusedSectionVars false
set_option linter.unusedVariables false
set_option linter.unusedSimpArgs false
namespace Go.Av
variable {c : Ctx} {H : Heap} {w : World} {P : Program}

def tdOf : TypeDesc → TD
  | .int k => .int k
  | .bool => .bool
  | .string => .str
  | .pointer _ => .ptr
  | .slice e => .slice e
  | .map k e => .map k e
  | .struct fs => .struct (fs.toList.map fun f => (f.offset, f.type))
  | .func _ _ _ => .func
  | .interface _ => .iface
  | .tuple _ => .tuple
  | _ => .other

structure TIok (P : Program) (t : TypeId) (i : TI) : Prop where
  info : ∃ ti z, P.info? t = some ti ∧ ti.size = i.size ∧ ti.bytes = i.bytes ∧ ti.zero = some z ∧ z.cells.toList.mapM ofVal0 = some i.zero ∧ z.cells.size = i.size ∧ (i.agg = false → z.cells = #[z])
  und : ∃ d, P.underlying t = some d ∧ d.isRow = i.agg ∧ tdOf d = i.d

theorem ofVal0_rv {v : Value} {x : V} (h : ofVal0 v = some x) : RV c H w x v := by
  unfold ofVal0 at h
  split at h <;> cases h <;> simp only [RV]
  exact ⟨none, 0, by simp⟩

theorem mapM_rvs {f : Value → Option V} (hf : ∀ v x, f v = some x → RV c H w x v) : ∀ {vs : List Value} {xs : List V}, vs.mapM f = some xs → RVs c H w xs vs
  | [], xs, h => by simp at h; subst h; simp only [RVs]
  | v :: vs, xs, h => by
    simp only [List.mapM_cons, Option.bind_eq_bind, Option.pure_def, Option.bind_eq_some_iff, Option.some.injEq] at h
    obtain ⟨x, h1, ys, h2, rfl⟩ := h
    simp only [RVs]
    exact ⟨v, vs, rfl, hf v x h1, mapM_rvs hf h2⟩

theorem ofVal_rv {v : Value} {x : V} (h : ofVal v = some x) : RV c H w x v := by
  unfold ofVal at h
  split at h
  · rename_i cs
    simp only [Option.map_eq_some_iff] at h
    obtain ⟨xs, h1, rfl⟩ := h
    simp only [RV]
    exact ⟨cs, rfl, mapM_rvs (fun _ _ => ofVal0_rv) h1⟩
  · exact ofVal0_rv h

theorem ov_rv {tm : List V} {a : Act} (ht : RVs c H w tm a.tmps.toList) {x : Operand} {v : V} (h : ov tm x = some v) : RV c H w v (a.eval x) := by
  cases x with
  | tmp t =>
    obtain ⟨y, hy, hr⟩ := RVs_get ht h
    have : a.eval (.tmp t) = y := by
      simp only [Act.eval, Array.getD_eq_getD_getElem?]
      rw [← Array.getElem?_toList, hy]; rfl
    rw [this]; exact hr
  | const u => exact ofVal_rv h
  | global g => cases h
  | func f =>
    cases h
    simp only [RV]
    exact ⟨#[], rfl, by simp only [RVs]⟩

/-- the cells of a row, as values -/
theorem rvat_rows {b : Nat} : ∀ {cs : List V} {o : Nat}, RVat c H w b o cs → ∃ vs, RVs c H w cs vs ∧ w.rangeAt b o vs
  | [], o, _ => ⟨[], by simp only [RVs], fun j v hv => by simp at hv⟩
  | x :: xs, o, h => by
    simp only [RVat] at h
    obtain ⟨_, ⟨y, h1, h2⟩, h3⟩ := h
    obtain ⟨vs, h4, h5⟩ := rvat_rows h3
    refine ⟨y :: vs, by simp only [RVs]; exact ⟨y, vs, rfl, h2, h4⟩, fun j v hv => ?_⟩
    cases j with
    | zero => simp at hv; subst hv; exact h1
    | succ j =>
      simp only [List.getElem?_cons_succ] at hv
      have := h5 j v hv
      rwa [show o + 1 + j = o + (j + 1) by omega] at this

theorem rvat_drop {b : Nat} {cs : List V} {o : Nat} (h : RVat c H w b o cs) (n : Nat) : RVat c H w b (o + n) (cs.drop n) :=
  RVat_of fun i x hx => by
    rw [List.getElem?_drop] at hx
    have := RVat_get h hx
    rwa [show o + (n + i) = o + n + i by omega] at this

theorem rvat_take {b : Nat} {cs : List V} {o : Nat} (h : RVat c H w b o cs) (n : Nat) : RVat c H w b o (cs.take n) :=
  RVat_of fun i x hx => by
    rw [List.getElem?_take] at hx
    split at hx
    · exact RVat_get h hx
    · cases hx

/-- the cells of an array that a slice has, as values -/
theorem own_rows (h : RH c H w) {t off len fin : Nat} {v : Value} (hv : ROwn c H w t off len fin v) {ob : Ob} (ht : H[t]? = some ob) {k : Nat} {cs : List V} (ha : arrCells off len fin ob = some (k, cs)) :
    ∃ b o cap vs, v = .slice (some ⟨b, o, none⟩) len cap ∧ len ≤ cap ∧ cs.length = len * k ∧ RVs c H w cs vs ∧ w.rangeAt b o vs := by
  obtain ⟨hsv, k2, st, me, ds, h1, h2, h3⟩ := hv
  rw [ht] at h1; cases h1
  simp only [arrCells] at ha
  split at ha
  · rename_i hc
    simp only [Option.some.injEq, Prod.mk.injEq] at ha
    obtain ⟨rfl, rfl⟩ := ha
    obtain ⟨b, o, cap, h4, h5, h6, h7, h8⟩ := h3 hc.2.2
    obtain ⟨g1, g2, g3, hk, a, e, ⟨fr, hfr, g4⟩, g5, g6⟩ := RO.arr h ht
    have hle : off * k2 + len * k2 ≤ fin * k2 := by rw [← Nat.add_mul]; exact Nat.mul_le_mul_right _ hc.1
    refine ⟨b, o, cap, _, h4, h5, by simp; omega, RVs_take (RVs_drop g6 (off * k2)) (len * k2), fun j u hu => ?_⟩
    rw [List.getElem?_take] at hu
    split at hu
    · rename_i hj
      rw [List.getElem?_drop, List.getElem?_take] at hu
      split at hu
      · have hcell : w.cell? ⟨c.ρ t, off * k2 + j, none⟩ = some u := by rw [cell_at g4, ← Array.getElem?_toList]; exact hu
        rcases h7.1 with ⟨rfl, rfl⟩ | hl
        · exact hcell
        · rw [(hl j (by omega)).2]; exact hcell
      · cases hu
    · cases hu
  · cases ha

/-- any slice's cells -/
theorem sl_rows (h : RH c H w) {x : V} {v : Value} (hv : RV c H w x v) {n : Nat} {cs : List V} (hs : slCells H x = some (n, cs)) :
    ∃ a cap vs, v = .slice a n cap ∧ n ≤ cap ∧ (a = none → cs = []) ∧ RVs c H w cs vs ∧ ∀ y, a = some y → (0 < n → y.spot = none) ∧ w.rangeAt y.block y.off vs := by
  cases x <;> simp only [slCells] at hs <;> first | (cases hs; done) | skip
  case sl len full ds =>
    simp only [RV] at hv
    simp only [Option.some.injEq, Prod.mk.injEq] at hs
    obtain ⟨rfl, rfl⟩ := hs
    obtain ⟨a, cap, h1, h2, h3, h4, h5⟩ := hv
    cases a with
    | none =>
      obtain ⟨rfl, rfl⟩ := h4 rfl
      exact ⟨none, cap, [], h1, h2, fun _ => rfl, by simp only [RVs], fun y hy => by cases hy⟩
    | some y =>
      obtain ⟨vs, h6, h7⟩ := rvat_rows (h5 y rfl).2
      exact ⟨some y, cap, vs, h1, h2, (fun hx => by cases hx), h6, fun z hz => by cases hz; exact ⟨(h5 y rfl).1, h7⟩⟩
  case own t off len fin =>
    simp only [RV] at hv
    simp only [Option.bind_eq_some_iff, Option.map_eq_some_iff] at hs
    obtain ⟨ob, ht, ⟨k, ds⟩, ha, hx⟩ := hs
    cases hx
    obtain ⟨b, o, cap, vs, h1, h2, h3, h4, h5⟩ := own_rows h hv ht ha
    exact ⟨some ⟨b, o, none⟩, cap, vs, h1, h2, (fun hx => by cases hx), h4, fun z hz => by cases hz; exact ⟨fun _ => rfl, h5⟩⟩

/-- a variable is read -/
theorem part_rv {i : TI} {t : TypeId} (hi : TIok P t i) {cs : List V} {off : Nat} {x : V} (hp : part i cs off = some x) {b o : Nat} {vs : List Value} (hr : RVs c H w cs vs) (hg : w.rangeAt b o vs) :
    ∃ v, (loadVar t ⟨b, o + off, none⟩).run P w = .ok v w ∧ RV c H w x v := by
  obtain ⟨ti, z, h1, h2, h3, h4, h5, h6, -⟩ := hi.info
  obtain ⟨d, g1, g2, g3⟩ := hi.und
  unfold part at hp
  split at hp
  · rename_i hle
    have hlen := RVs_length hr
    by_cases ha : i.agg = true
    · rw [if_pos ha] at hp; cases hp
      have hr2 := RVs_take (RVs_drop hr off) i.size
      have hl : ((vs.drop off).take i.size).length = i.size := by simp; omega
      refine ⟨_, run_loadVar_mid w b (o + off) t ((vs.drop off).take i.size) d (fun j v hv => ?_) g1 (by rw [g2]; exact ha) (by rw [h1]; simp [h2, hl]), ?_⟩
      · rw [List.getElem?_take] at hv
        split at hv
        · rw [List.getElem?_drop] at hv
          have := hg _ v hv
          rwa [show o + (off + j) = o + off + j by omega] at this
        · cases hv
      · simp only [RV]
        exact ⟨_, rfl, by simpa using hr2⟩
    · rw [if_neg ha] at hp
      split at hp
      · obtain ⟨y, hy, hrv⟩ := RVs_get hr hp
        refine ⟨y, ?_, hrv⟩
        have hc := hg off y hy
        have hag : (isAgg t).run P w = .ok false w := by
          unfold isAgg
          rw [Sem.run_bind, run_underlying g1 w]
          have : d.isRow = false := by rw [g2]; simpa using ha
          cases d <;> simp_all
        simp [loadVar, hag, hc]
      · cases hp
  · cases hp

/-- part of a struct's value -/
theorem part_val {i : TI} {t : TypeId} (hi : TIok P t i) {cs : List V} {off : Nat} {x : V} (hp : part i cs off = some x) {a : Array Value} (hr : RVs c H w cs a.toList) :
    ∃ v, (Go.part t a off).run P w = .ok v w ∧ RV c H w x v := by
  obtain ⟨ti, z, h1, h2, h3, h4, h5, h6, -⟩ := hi.info
  obtain ⟨d, g1, g2, g3⟩ := hi.und
  unfold part at hp
  split at hp
  · rename_i hle
    have hag : (isAgg t).run P w = .ok i.agg w := by
      unfold isAgg
      rw [Sem.run_bind, run_underlying g1 w]
      cases d <;> simp_all
    by_cases ha : i.agg = true
    · rw [if_pos ha] at hp; cases hp
      have hr2 := RVs_take (RVs_drop hr off) i.size
      refine ⟨.agg (a.extract off (off + i.size)), by simp [Go.part, hag, ha, sizeOf, typeInfo, h1, h2], ?_⟩
      simp only [RV]
      refine ⟨_, rfl, ?_⟩
      have : (a.extract off (off + i.size)).toList = (a.toList.drop off).take i.size := by simp [List.extract_eq_take_drop]
      rw [this]; exact hr2
    · rw [if_neg ha] at hp
      split at hp
      · obtain ⟨y, hy, hrv⟩ := RVs_get hr hp
        have hy' : a[off]? = some y := by rw [← Array.getElem?_toList]; exact hy
        exact ⟨y, by simp [Go.part, hag, ha, hy'], hrv⟩
      · cases hp
  · cases hp
end Go.Av
namespace Go.Av
variable {c : Ctx} {H : Heap} {w : World} {P : Program}

/-- an operation's run comes to a value, to nothing, or throws one -/
def Out (P : Program) (s : Sem Next) (w : World) (pan : Bool) (x : Value) (w' : World) : Prop :=
  if pan then s.run P w = .halt (.panic x) w' else (s.run P w = .ok (.value x) w' ∨ (s.run P w = .ok .skip w' ∧ x = undef))

/-- a description that is no call, carried out -/
def runN (H : Heap) : Dsc → Option (V × Bool × Heap)
  | .val v => some (v, false, H)
  | .read t f => ((H[t]?).bind f).map fun v => (v, false, H)
  | .new o v => some (v H.length, false, H ++ [o])
  | .newFrom s f v => ((H[s]?).bind f).map fun o => (v H.length, false, H ++ [o])
  | .upd t f v => ((H[t]?).bind f).map fun o => (v, false, H.set t o)
  | .updFrom t s f v => (H[t]?).bind fun a => (H[s]?).bind fun b => (f a b).map fun o => (v, false, H.set t o)
  | .call _ _ => none
  | .pan v => some (v, true, H)

def OpOk (P : Program) (s : Sem Next) (c : Ctx) (H : Heap) (w : World) (d : Dsc) : Prop :=
  ∀ v pan H', runN H d = some (v, pan, H') → ∃ c' w' x, Out P s w pan x w' ∧ Evo c c' H H' w w' ∧ RH c' H' w' ∧ RV c' H' w' v x

theorem ok_val (h : RH c H w) {s : Sem Next} {v : V} {x : Value} (hr : s.run P w = .ok (.value x) w) (hv : RV c H w v x) : OpOk P s c H w (.val v) := by
  intro v' pan H' he
  simp only [runN, Option.some.injEq, Prod.mk.injEq] at he
  obtain ⟨rfl, rfl, rfl⟩ := he
  exact ⟨c, w, x, by simp [Out, hr], Evo.refl _ _ _, h, hv⟩

theorem ok_read (h : RH c H w) {s : Sem Next} {t : Nat} {f : Ob → Option V} (hr : ∀ ob v, H[t]? = some ob → f ob = some v → ∃ x, s.run P w = .ok (.value x) w ∧ RV c H w v x) : OpOk P s c H w (.read t f) := by
  intro v pan H' he
  simp only [runN, Option.map_eq_some_iff, Option.bind_eq_some_iff, Prod.mk.injEq] at he
  obtain ⟨v', ⟨ob, h1, h2⟩, rfl, rfl, rfl⟩ := he
  obtain ⟨x, h3, h4⟩ := hr ob v' h1 h2
  exact ⟨c, w, x, by simp [Out, h3], Evo.refl _ _ _, h, h4⟩

/-- a value of one cell is one -/
theorem one_rv {v : V} {x : Value} (hs : v.one = true) (hv : RV c H w v x) : x.oneCell' = true ∧ x.cells = #[x] := by
  cases v <;> simp only [V.one] at hs <;> first | (cases hs; done) | skip
  all_goals simp only [RV] at hv
  case int => subst hv; exact ⟨rfl, rfl⟩
  case bool => subst hv; exact ⟨rfl, rfl⟩
  case str => subst hv; exact ⟨rfl, rfl⟩
  case sl => obtain ⟨_, _, rfl, _⟩ := hv; exact ⟨rfl, rfl⟩
  case own => obtain ⟨⟨_, _, rfl, _⟩, _⟩ := hv; exact ⟨rfl, rfl⟩
  case fp => obtain ⟨_, _, rfl, _⟩ := hv; exact ⟨rfl, rfl⟩
  case bp => obtain ⟨_, rfl⟩ := hv; exact ⟨rfl, rfl⟩
  case ap => obtain ⟨⟨_, rfl⟩, _⟩ := hv; exact ⟨rfl, rfl⟩
  case nilp => subst hv; exact ⟨rfl, rfl⟩
  case mp => obtain ⟨_, rfl⟩ := hv; exact ⟨rfl, rfl⟩
  case nilm => subst hv; exact ⟨rfl, rfl⟩
  case fn => obtain ⟨_, rfl, _⟩ := hv; exact ⟨rfl, rfl⟩
  case nilf => subst hv; exact ⟨rfl, rfl⟩
  case ifc => obtain ⟨_, rfl, _⟩ := hv; exact ⟨rfl, rfl⟩
  case nili => subst hv; exact ⟨rfl, rfl⟩

/-- what a value's cells are -/
theorem cells_rv {v : V} {x : Value} (hs : v.solid = true) (hv : RV c H w v x) : RVs c H w v.cells x.cells.toList ∧ x.cells.toList.all (·.oneCell') = true := by
  by_cases ha : ∃ cs, v = .agg cs
  · obtain ⟨cs, rfl⟩ := ha
    simp only [RV] at hv
    obtain ⟨a, rfl, h2⟩ := hv
    refine ⟨h2, List.all_eq_true.2 fun y hy => ?_⟩
    obtain ⟨i, hi⟩ := List.getElem?_of_mem hy
    have hl := RVs_length h2
    have hlt : i < cs.length := by rw [hl]; exact (List.getElem?_eq_some_iff.1 hi).1
    obtain ⟨z, hz, hr⟩ := RVs_get h2 (List.getElem?_eq_getElem hlt)
    simp only [Value.cells] at hi
    rw [hz] at hi; cases hi
    exact (one_rv (List.all_eq_true.1 hs _ (List.getElem_mem hlt)) hr).1
  · have h1 : v.one = true := by cases v <;> first | exact hs | exact absurd ⟨_, rfl⟩ ha
    have h2 : v.cells = [v] := by cases v <;> first | rfl | exact absurd ⟨_, rfl⟩ ha
    obtain ⟨h3, h4⟩ := one_rv h1 hv
    rw [h2, h4]
    simp only [RVs, List.all_cons, h3]
    exact ⟨⟨x, [], rfl, hv, rfl⟩, rfl⟩


theorem ok_pan (h : RH c H w) {s : Sem Next} {v : V} {x : Value} (hr : s.run P w = .halt (.panic x) w) (hv : RV c H w v x) : OpOk P s c H w (.pan v) := by
  intro v' pan H' he
  simp only [runN, Option.some.injEq, Prod.mk.injEq] at he
  obtain ⟨rfl, rfl, rfl⟩ := he
  exact ⟨c, w, x, by simp [Out, hr], Evo.refl _ _ _, h, hv⟩

theorem mapM_ops {ρ : Operand → Option V} {f : Operand → Value} (hρ : ∀ x v, ρ x = some v → RV c H w v (f x)) : ∀ {xs : List Operand} {vs : List V}, xs.mapM ρ = some vs → RVs c H w vs (xs.map f)
  | [], vs, h => by simp at h; subst h; simp only [List.map_nil, RVs]
  | x :: xs, vs, h => by
    simp only [List.mapM_cons, Option.bind_eq_bind, Option.pure_def, Option.bind_eq_some_iff, Option.some.injEq] at h
    obtain ⟨v, h1, ys, h2, rfl⟩ := h
    simp only [List.map_cons, RVs]
    exact ⟨f x, _, rfl, hρ x v h1, mapM_ops hρ h2⟩

theorem run_eq_bool {t : TypeId} (ht : P.underlying t = some .bool) (x y : Bool) : (Op.equal t (.bool x) (.bool y)).run P w = .ok (x == y) w := by
  have key : ∀ n, (Op.equalIn (n + 1) t (.bool x) (.bool y)).run P w = .ok (x == y) w := fun n => by
    rw [Op.equalIn]
    simp only [Sem.run_bind, run_underlying ht, Result.andThen_ok, Sem.run_pure]
  exact key 9999

section
variable {C : Cfg} (hT : ∀ t i, C.T t = some i → TIok P t i) {fid : FuncId} {o : Oper} {a : Act} {ρ : Operand → Option V} (hρ : ∀ x v, ρ x = some v → RV c H w v (a.eval x)) (h : RH c H w) {d : Dsc} (hd : evDsc C fid o ρ = some d)
include hρ h hd

theorem ok_move {x : Operand} (ho : o.op = .move x ∨ o.op = .assign x) : OpOk P (execOp a.eval o) c H w d := by
  rcases ho with ho | ho <;>
  · simp only [evDsc, ho, Option.map_eq_some_iff] at hd
    obtain ⟨v, h1, rfl⟩ := hd
    exact ok_val h (by simp [execOp, ho]) (hρ x v h1)

theorem ok_pick {x y z : Operand} (ho : o.op = .pick x y z) : OpOk P (execOp a.eval o) c H w d := by
  simp only [evDsc, ho] at hd
  split at hd
  · rename_i he
    simp only [Option.map_eq_some_iff] at hd
    obtain ⟨v, h1, rfl⟩ := hd
    have hb := hρ _ _ he
    simp only [RV] at hb
    exact ok_val h (by simp [execOp, ho, hb, asBool]) (hρ y v h1)
  · rename_i he
    simp only [Option.map_eq_some_iff] at hd
    obtain ⟨v, h1, rfl⟩ := hd
    have hb := hρ _ _ he
    simp only [RV] at hb
    exact ok_val h (by simp [execOp, ho, hb, asBool]) (hρ z v h1)
  · cases hd

theorem ok_nilCheck {x : Operand} (ho : o.op = .nilCheck x) : OpOk P (execOp a.eval o) c H w d := by
  simp only [evDsc, ho, Option.bind_eq_some_iff] at hd
  obtain ⟨v, h1, h2⟩ := hd
  have hv := hρ x v h1
  have key : ∀ y, a.eval x = .pointer (some y) → OpOk P (execOp a.eval o) c H w (.val v) := fun y hy =>
    ok_val h (x := a.eval x) (by simp [execOp, ho, hy]) hv
  split at h2 <;> cases h2
  · have hv' := hv
    simp only [RV] at hv'
    exact key _ hv'.2
  · have hv' := hv
    simp only [RV, RAp] at hv'
    obtain ⟨⟨b, g2⟩, _⟩ := hv'
    exact key _ g2
  · have hv' := hv
    simp only [RV] at hv'
    obtain ⟨b, o, g2, _⟩ := hv'
    exact key _ g2

theorem ok_unOp {op : UnOp} {t : TypeId} {x : Operand} (ho : o.op = .unOp op t x) : OpOk P (execOp a.eval o) c H w d := by
  simp only [evDsc, ho] at hd
  split at hd
  · rename_i b he
    cases hd
    have hb := hρ _ _ he
    simp only [RV] at hb
    exact ok_val h (x := .bool !b) (by simp [execOp, ho, hb, Op.unary]) (by simp only [RV])
  · cases hd

theorem ok_extract {x : Operand} {j : Nat} (ho : o.op = .extract x j) : OpOk P (execOp a.eval o) c H w d := by
  simp only [evDsc, ho] at hd
  split at hd
  · rename_i vs he
    simp only [Option.map_eq_some_iff] at hd
    obtain ⟨v, h1, rfl⟩ := hd
    have hb := hρ _ _ he
    simp only [RV] at hb
    obtain ⟨b, h2, h3⟩ := hb
    obtain ⟨y, hy, hr⟩ := RVs_get h3 h1
    have hy' : b[j]? = some y := by rw [← Array.getElem?_toList]; exact hy
    exact ok_val h (by simp [execOp, ho, h2, Instr.extract, hy']) hr
  · cases hd

theorem ok_panic {x : Operand} (ho : o.op = .panic x) : OpOk P (execOp a.eval o) c H w d := by
  simp only [evDsc, ho] at hd
  split at hd
  · rename_i t v he
    cases hd
    have hb := hρ _ _ he
    have hb' := hb
    simp only [RV] at hb'
    obtain ⟨y, h2, h3⟩ := hb'
    exact ok_pan h (x := a.eval x) (by simp [execOp, ho, h2, Instr.panic]) hb
  · cases hd

theorem ok_makeFunc {f : Fn} {first caps : Array Operand} (ho : o.op = .makeFunc f first caps) : OpOk P (execOp a.eval o) c H w d := by
  cases f <;> simp only [evDsc, ho] at hd <;> first | (cases hd; done) | skip
  split at hd
  · rename_i g he
    simp only [Option.map_eq_some_iff] at hd
    obtain ⟨vs, h1, rfl⟩ := hd
    have hf : first = #[] := by simpa using he
    refine ok_val h (x := .func (.func g) #[] (caps.map a.eval)) (by simp [execOp, ho, hf, Instr.makeFunc]) ?_
    simp only [RV]
    exact ⟨_, rfl, by rw [Array.toList_map]; exact mapM_ops hρ h1⟩
  · cases hd

include hT

theorem ok_binOp {op : BinOp} {t u : TypeId} {x y : Operand} (ho : o.op = .binOp op t x y u) : OpOk P (execOp a.eval o) c H w d := by
  simp only [evDsc, ho, Option.bind_eq_some_iff] at hd
  obtain ⟨p, h1, q, h2, v, h3, h4⟩ := hd
  have hp := hρ x p h1
  have hq := hρ y q h2
  unfold binOp at h3
  split at h3
  · simp only [RV] at hp hq
    cases h4
    split at h3
    · rename_i he
      subst he
      cases op <;> simp only [binInt] at h3 <;> first | (cases h3; done) | skip
      all_goals
        cases h3
        refine ok_val h (by simp [execOp, ho, hp, hq, eqGuard, Go.binOp, Op.intArith, Op.intCmp]; rfl) ?_
        simp only [RV]
    · cases h3
  · rename_i s1 s2
    simp only [RV] at hp hq
    cases h4
    cases op <;> simp only at h3 <;> first | (cases h3; done) | skip
    · split at h3
      · rename_i hs
        cases h3
        have : ¬ (9223372036854775807 < (s1.size : Int) + (s2.size : Int)) := by simp only [roomy] at hs; omega
        refine ok_val h (by simp [execOp, ho, hp, hq, eqGuard, Go.binOp, Op.stringOp, this]; rfl) ?_
        simp only [RV]
      · cases h3
    · cases h3
      refine ok_val h (x := .bool (s1.toList == s2.toList)) (by simp [execOp, ho, hp, hq, eqGuard, Go.binOp, Op.stringOp]) ?_
      simp only [RV, strEq, ByteArray.toList_eq]
    · cases h3
      refine ok_val h (x := .bool !(s1.toList == s2.toList)) (by simp [execOp, ho, hp, hq, eqGuard, Go.binOp, Op.stringOp]) ?_
      simp only [RV, strEq, ByteArray.toList_eq]
  · simp only [RV] at hp hq
    simp only at h4
    split at h4
    · rename_i hi
      cases h4
      obtain ⟨dd, g1, _, g3⟩ := (hT _ _ hi).und
      have : dd = .bool := by cases dd <;> simp_all [tdOf]
      subst this
      cases op <;> simp only at h3 <;> first | (cases h3; done) | skip
      all_goals
        cases h3
        refine ok_val h (by simp [execOp, ho, hp, hq, eqGuard, Go.binOp, run_eq_bool g1]; rfl) ?_
        simp only [RV]
    · cases h4
  · cases h3
end
end Go.Av
namespace Go.Av
variable {c : Ctx} {H : Heap} {w : World} {P : Program}

theorem td_struct {d : TypeDesc} {fs : List (Nat × TypeId)} (h : tdOf d = .struct fs) : ∃ gs, d = .struct gs ∧ fs = gs.toList.map fun f => (f.offset, f.type) := by
  cases d <;> simp [tdOf] at h
  exact ⟨_, rfl, h.symm⟩
theorem td_slice {d : TypeDesc} {e : TypeId} (h : tdOf d = .slice e) : d = .slice e := by
  cases d <;> simp [tdOf] at h
  rw [h]
theorem td_map {d : TypeDesc} {k e : TypeId} (h : tdOf d = .map k e) : d = .map k e := by
  cases d <;> simp [tdOf] at h
  rw [h.1, h.2]
theorem td_str {d : TypeDesc} (h : tdOf d = .str) : d = .string := by
  cases d <;> simp [tdOf] at h; rfl
theorem td_int {d : TypeDesc} {k : IntKind} (h : tdOf d = .int k) : d = .int k := by
  cases d <;> simp [tdOf] at h
  rw [h]

theorem TIok.size {t : TypeId} {i : TI} (hi : TIok P t i) (w : World) : (sizeOf t).run P w = .ok i.size w := by
  obtain ⟨ti, z, h1, h2, _⟩ := hi.info
  simp [sizeOf, typeInfo, h1, h2]

theorem add_mid (b o n : Nat) : (⟨b, o, none⟩ : Addr).add n = ⟨b, o + n, none⟩ := Addr.add_mid b o n

theorem spot_none {y : Addr} (h : y.spot = none) : y = ⟨y.block, y.off, none⟩ := by cases y; simp_all

/-- the cells that an array's pointer leads to -/
theorem ap_rows (h : RH c H w) {t k me : Nat} {st : Bool} {cs : List V} (hob : H[t]? = some (.arr k st me cs)) {p f b q n : Nat} (hp : Pos c w t p f cs.length b q) (hn : p + n ≤ f) (hf : f ≤ cs.length) :
    ∃ vs, RVs c H w ((cs.drop p).take n) vs ∧ w.rangeAt b q vs := by
  obtain ⟨r1, r2, r3, hk, ar, e, ⟨fr, hfr, r4⟩, r5, r6⟩ := RO.arr h hob
  refine ⟨_, RVs_take (RVs_drop r6 p) n, fun j u hu => ?_⟩
  rw [List.getElem?_take] at hu
  split at hu
  · rename_i hj
    rw [List.getElem?_drop, List.getElem?_take] at hu
    split at hu
    · have hcell : w.cell? ⟨c.ρ t, p + j, none⟩ = some u := by rw [cell_at r4, ← Array.getElem?_toList]; exact hu
      rcases hp.1 with ⟨rfl, rfl⟩ | hl
      · exact hcell
      · rw [(hl j (by omega)).2]; exact hcell
    · cases hu
  · cases hu

theorem part_shift {i : TI} {cs : List V} {off : Nat} {u : V} (hf : part i cs off = some u) : part i ((cs.drop off).take i.size) 0 = some u := by
  unfold part at hf ⊢
  split at hf
  · rename_i hle
    rw [if_pos (by simp; omega)]
    split at hf
    · rename_i ha
      rw [if_pos ha]
      simpa [List.take_take] using hf
    · rename_i ha
      rw [if_neg ha]
      split at hf
      · rename_i h1
        rw [if_pos h1, List.getElem?_take, if_pos (by omega), List.getElem?_drop]; exact hf
      · cases hf
  · cases hf

section
variable {C : Cfg} (hT : ∀ t i, C.T t = some i → TIok P t i) {fid : FuncId} {o : Oper} {a : Act} {ρ : Operand → Option V} (hρ : ∀ x v, ρ x = some v → RV c H w v (a.eval x)) (h : RH c H w) {d : Dsc} (hd : evDsc C fid o ρ = some d)
include hT hρ h hd

theorem ok_fieldAddr {t : TypeId} {x : Operand} {j : Nat} (ho : o.op = .fieldAddr t x j) : OpOk P (execOp a.eval o) c H w d := by
  simp only [evDsc, ho] at hd
  split at hd
  · rename_i fs hi
    simp only [Option.bind_eq_some_iff] at hd
    obtain ⟨p, h1, i, h2, v, h3, h4⟩ := hd
    obtain ⟨dd, g1, _, g3⟩ := (hT _ _ hi).und
    obtain ⟨gs, rfl, g4⟩ := td_struct g3
    subst g4
    rw [List.getElem?_map, Option.map_eq_some_iff] at h1
    obtain ⟨f, h1, rfl⟩ := h1
    have hf : gs[j]? = some f := by rw [← Array.getElem?_toList]; exact h1
    have hsz := (hT _ _ h2).size w
    split at h4
    · cases h4
    rename_i hne
    have hv := hρ x v h3
    have key' : ∀ y, a.eval x = .pointer (some y) → (execOp a.eval o).run P w = .ok (.value (.pointer (some (y.add f.offset)))) w := fun y he => by
      simp [execOp, ho, he, Instr.fieldAt, run_underlying g1, hf, Instr.sureAddr, fieldPlace, hsz, hne]
    have key : ∀ b q, a.eval x = .pointer (some ⟨b, q, none⟩) → (execOp a.eval o).run P w = .ok (.value (.pointer (some ⟨b, q + f.offset, none⟩))) w := fun b q he => by
      rw [key' _ he, add_mid]
    split at h4 <;> cases h4
    · simp only [RV] at hv
      obtain ⟨g5, g6⟩ := hv
      refine ok_val h (key _ _ g6) ?_
      simp only [RV]; exact ⟨g5, trivial⟩
    · rename_i id0 o0 f0
      simp only [RV, RAp] at hv
      obtain ⟨⟨b0, hb0⟩, k, st, me, cs, g5, g6, g7⟩ := hv
      by_cases hm : me ≤ f0
      · obtain ⟨b, q, g8, g9, g10⟩ := g7 hm
        refine ok_val h (key _ _ g8) ?_
        simp only [RV, RAp]
        refine ⟨⟨_, rfl⟩, k, st, me, cs, g5, g6, fun _ => ⟨b, q + f.offset, rfl, ?_, fun he => ?_⟩⟩
        · rcases g9 with ⟨rfl, rfl⟩ | g9
          · exact .inl ⟨rfl, rfl⟩
          · refine .inr fun i hi => ?_
            have := g9 (f.offset + i) (by omega)
            rwa [← Nat.add_assoc, ← Nat.add_assoc] at this
        · obtain ⟨rfl, rfl⟩ := g10 he; exact ⟨rfl, rfl⟩
      · refine ok_val h (key' _ hb0) ?_
        simp only [RV, RAp]
        exact ⟨⟨_, rfl⟩, k, st, me, cs, g5, g6, fun hx => absurd hx hm⟩
    · simp only [RV] at hv
      obtain ⟨b, q, g5, g6⟩ := hv
      refine ok_val h (key _ _ g5) ?_
      simp only [RV]
      exact ⟨b, q + f.offset, rfl, rvat_drop g6 _⟩
  · cases hd

theorem ok_field {t : TypeId} {x : Operand} {j : Nat} (ho : o.op = .field t x j) : OpOk P (execOp a.eval o) c H w d := by
  simp only [evDsc, ho] at hd
  split at hd
  · rename_i fs hi
    simp only [Option.bind_eq_some_iff] at hd
    obtain ⟨p, h1, i, h2, h4⟩ := hd
    obtain ⟨dd, g1, _, g3⟩ := (hT _ _ hi).und
    obtain ⟨gs, rfl, g4⟩ := td_struct g3
    subst g4
    rw [List.getElem?_map, Option.map_eq_some_iff] at h1
    obtain ⟨f, h1, rfl⟩ := h1
    have hf : gs[j]? = some f := by rw [← Array.getElem?_toList]; exact h1
    split at h4
    · rename_i cs he
      simp only [Option.map_eq_some_iff] at h4
      obtain ⟨v, h5, rfl⟩ := h4
      have hv := hρ x _ he
      simp only [RV] at hv
      obtain ⟨b, hb, hr⟩ := hv
      obtain ⟨y, hy, hrv⟩ := part_val (P := P) (hT _ _ h2) h5 hr
      exact ok_val h (by simp [execOp, ho, hb, Instr.field, run_underlying g1, hf, asAgg, hy]) hrv
    · cases h4
  · cases hd

theorem ok_indexAddr {t : TypeId} {x y : Operand} (ho : o.op = .indexAddr t x y) : OpOk P (execOp a.eval o) c H w d := by
  simp only [evDsc, ho] at hd
  split at hd
  · rename_i el hi
    simp only [Option.bind_eq_some_iff] at hd
    obtain ⟨i, h2, h4⟩ := hd
    obtain ⟨dd, g1, _, g3⟩ := (hT _ _ hi).und
    have := td_slice g3
    subst this
    have hsz := (hT _ _ h2).size w
    have key : ∀ k n len cap (b q : Nat), a.eval y = .int k n → a.eval x = .slice (some ⟨b, q, none⟩) len cap → 0 ≤ n → n < (len : Int) →
        (execOp a.eval o).run P w = .ok (.value (.pointer (some ⟨b, q + n.toNat * i.size, none⟩))) w := fun k n len cap b q e1 e2 e3 e4 => by
      simp [execOp, ho, e1, e2, Instr.indexAt, run_underlying g1, asIntOf, hsz, e3, e4, add_mid]
    split at h4
    · rename_i k n len full cs e1 e2
      have hy := hρ y _ e1
      have hx := hρ x _ e2
      simp only [RV] at hy hx
      obtain ⟨b, cap, g5, g6, g7, g8, g9⟩ := hx
      split at h4
      · rename_i hb
        cases h4
        cases b with
        | none => have := (g8 rfl).1; omega
        | some b =>
          obtain ⟨g10, g11⟩ := g9 b rfl
          rw [spot_none (g10 (by omega))] at g5
          refine ok_val h (key _ _ _ _ _ _ hy g5 hb.1 hb.2) ?_
          simp only [RV]
          exact ⟨_, _, rfl, rvat_drop g11 _⟩
      · cases h4
    · rename_i k n id off len fin e1 e2
      have hy := hρ y _ e1
      have hx := hρ x _ e2
      simp only [RV] at hy hx
      split at h4
      · rename_i hb
        cases h4
        refine ok_read h fun ob v hob hf => ?_
        split at hf
        · rename_i kk st me cs
          split at hf
          · rename_i hm
            cases hf
            obtain ⟨_, k2, st2, me2, cs2, g4, g5, g6⟩ := hx
            rw [hob] at g4; cases g4
            obtain ⟨b, q, cap, g7, g8, g9, g10, g11⟩ := g6 hm.2
            rw [← hm.1] at key ⊢
            refine ⟨_, key _ _ _ _ _ _ hy g7 hb.1 hb.2.1, ?_⟩
            simp only [RV, RAp]
            refine ⟨⟨_, rfl⟩, kk, _, _, _, hob, g5, fun _ => ⟨b, q + n.toNat * kk, rfl, ?_, fun he => ?_⟩⟩
            · rw [Nat.add_mul]
              rcases g10.1 with ⟨rfl, rfl⟩ | g10
              · exact .inl ⟨rfl, rfl⟩
              · refine .inr fun i hi => ?_
                have := g10 (n.toNat * kk + i) (by omega)
                rwa [← Nat.add_assoc, ← Nat.add_assoc] at this
            · obtain ⟨rfl, rfl⟩ := g10.2 he
              exact ⟨rfl, by rw [Nat.add_mul]⟩
          · cases hf
        · cases hf
      · cases h4
    · cases h4
  · cases hd

theorem ok_load {t : TypeId} {x : Operand} (ho : o.op = .load t x) : OpOk P (execOp a.eval o) c H w d := by
  simp only [evDsc, ho, Option.bind_eq_some_iff] at hd
  obtain ⟨v, h1, i, h2, h3⟩ := hd
  have hv := hρ x v h1
  have key : ∀ y b q, a.eval x = .pointer (some ⟨b, q, none⟩) → (loadVar t ⟨b, q, none⟩).run P w = .ok y w → (execOp a.eval o).run P w = .ok (.value y) w := fun y b q e1 e2 => by
    simp [execOp, ho, e1, Instr.loadAt, Instr.sureAddr, e2]
  unfold loadD at h3
  split at h3
  · simp only [Option.map_eq_some_iff] at h3
    obtain ⟨u, h4, rfl⟩ := h3
    simp only [RV] at hv
    obtain ⟨b, q, g1, g2⟩ := hv
    obtain ⟨vs, g3, g4⟩ := rvat_rows g2
    obtain ⟨y, g5, g6⟩ := part_rv (P := P) (hT _ _ h2) h4 g3 g4
    exact ok_val h (key y b q g1 g5) g6
  · cases h3
    simp only [RV] at hv
    obtain ⟨⟨cs0, g0⟩, g1⟩ := hv
    refine ok_read h fun ob u hob hf => ?_
    split at hf
    · rename_i cs
      have hr := h.ob _ _ hob
      simp only [RO] at hr
      obtain ⟨_, _, _, ar, e, g2, g3⟩ := hr
      obtain ⟨y, g5, g6⟩ := part_rv (P := P) (hT _ _ h2) hf (b := c.ρ _) (o := 0) g3 (fun j u hu => by rw [cell_at g2, Nat.zero_add, ← Array.getElem?_toList]; exact hu)
      rw [Nat.zero_add] at g5
      exact ⟨y, key y _ _ g1 g5, g6⟩
    · cases hf
  · cases h3
    simp only [RV] at hv
    refine ok_read h fun ob u hob hf => ?_
    split at hf
    · rename_i k st me cs
      split at hf
      · rename_i hc
        obtain ⟨_, k2, st2, me2, cs2, g4, g5, g6⟩ := hv
        rw [hob] at g4; cases g4
        obtain ⟨b, q, g7, g10⟩ := g6 hc.2.2
        obtain ⟨vs, g8, g9⟩ := ap_rows h hob g10 hc.1 g5
        obtain ⟨y, g11, g12⟩ := part_rv (P := P) (hT _ _ h2) (part_shift hf) g8 g9
        exact ⟨y, key y b q g7 g11, g12⟩
      · cases hf
    · cases hf
  · cases h3
end
end Go.Av
namespace Go.Av
variable {c : Ctx} {H : Heap} {w : World} {P : Program}

theorem bound_run {a : Act} {ρ : Operand → Option V} (hρ : ∀ x v, ρ x = some v → RV c H w v (a.eval x)) {q : Option Operand} {dflt n : Nat} (hb : boundD ρ q dflt = some n) : (q = none ∧ n = dflt) ∨ ∃ x k, q = some x ∧ a.eval x = .int k n := by
  unfold boundD at hb
  split at hb
  · cases hb; exact .inl ⟨rfl, rfl⟩
  · rename_i x
    split at hb
    · rename_i k m he
      split at hb
      · rename_i hm
        cases hb
        have hx := hρ x _ he
        simp only [RV] at hx
        exact .inr ⟨x, k, rfl, by rw [hx, Int.toNat_of_nonneg hm]⟩
      · cases hb
    · cases hb

section
variable {C : Cfg} (hT : ∀ t i, C.T t = some i → TIok P t i) {fid : FuncId} {o : Oper} {a : Act} {ρ : Operand → Option V} (hρ : ∀ x v, ρ x = some v → RV c H w v (a.eval x)) (h : RH c H w) {d : Dsc} (hd : evDsc C fid o ρ = some d)
include hT hρ h hd

theorem ok_index {t : TypeId} {x y : Operand} (ho : o.op = .index t x y) : OpOk P (execOp a.eval o) c H w d := by
  simp only [evDsc, ho, Option.bind_eq_some_iff] at hd
  obtain ⟨i, h1, h2⟩ := hd
  obtain ⟨dd, g1, _, g3⟩ := (hT _ _ h1).und
  split at h2
  · rename_i s k n he e1 e2
    have hx := hρ x _ e1
    have hy := hρ y _ e2
    simp only [RV] at hx hy
    rw [he] at g3
    have := td_str g3
    subst this
    split at h2
    · rename_i hn
      simp only [Option.map_eq_some_iff] at h2
      obtain ⟨b, hb, rfl⟩ := h2
      exact ok_val h (x := .int .u8 b.toNat) (by simp [execOp, ho, hx, hy, Instr.index, asIntOf, run_underlying g1, hn, hb]) (by simp only [RV])
    · cases h2
  · cases h2

theorem ok_makeInterface {t : TypeId} {x : Operand} (ho : o.op = .makeInterface t x) : OpOk P (execOp a.eval o) c H w d := by
  simp only [evDsc, ho, Option.bind_eq_some_iff] at hd
  obtain ⟨v, h0, i, h1, h2⟩ := hd
  obtain ⟨dd, g1, _, g3⟩ := (hT _ _ h1).und
  have hx := hρ x _ h0
  split at h2
  · cases h2
  · rename_i hne
    cases h2
    refine ok_val h (x := .iface t (a.eval x)) ?_ (by simp only [RV]; exact ⟨_, rfl, hx⟩)
    cases dd <;> simp_all [execOp, Instr.makeInterface, run_underlying g1, tdOf]


omit hT hρ h hd in
theorem bounds_run {isS : Bool} {len cap l' h' M : Nat} {l hi m : Option Operand} (hm : (m = none ∧ M = cap) ∨ ∃ x k, m = some x ∧ a.eval x = .int k M) (hmc : M ≤ cap)
    (hh : (hi = none ∧ h' = len ∧ m = none) ∨ ∃ x k, hi = some x ∧ a.eval x = .int k h') (hhm : h' ≤ M) (hl : (l = none ∧ l' = 0) ∨ ∃ x k, l = some x ∧ a.eval x = .int k l') (hlh : l' ≤ h') :
    (Instr.sliceBounds isS len cap (l.map a.eval) (hi.map a.eval) (m.map a.eval)).run P w = .ok (l', h', M) w := by
  have c1 : (h' : Int) ≤ M := by omega
  have c2 : (l' : Int) ≤ h' := by omega
  have c3 : (M : Int) ≤ cap := by omega
  rcases hm with ⟨rfl, e1⟩ | ⟨xm, km, rfl, e1⟩
  · rcases hh with ⟨rfl, e2, _⟩ | ⟨xh, kh, rfl, e2⟩
    · rcases hl with ⟨rfl, e3⟩ | ⟨xl, kl, rfl, e3⟩
      · simp [Instr.sliceBounds, e1, e2, e3]
      · simp [Instr.sliceBounds, Instr.sliceBound, asIntOf, e1, e3, ← e2, hlh]
    · rw [← e1] at *
      rcases hl with ⟨rfl, e3⟩ | ⟨xl, kl, rfl, e3⟩
      · simp [Instr.sliceBounds, Instr.sliceBound, asIntOf, e2, e3, hhm]
      · simp [Instr.sliceBounds, Instr.sliceBound, asIntOf, e2, e3, hhm, hlh]
  · rcases hh with ⟨rfl, e2, e4⟩ | ⟨xh, kh, rfl, e2⟩
    · cases e4
    · rcases hl with ⟨rfl, e3⟩ | ⟨xl, kl, rfl, e3⟩
      · simp [Instr.sliceBounds, Instr.sliceBound, asIntOf, e1, e2, e3, hhm, hmc]
      · simp [Instr.sliceBounds, Instr.sliceBound, asIntOf, e1, e2, e3, hhm, hmc, hlh]

theorem ok_slice {t : TypeId} {x : Operand} {l hi m : Option Operand} (ho : o.op = .slice t x l hi m) : OpOk P (execOp a.eval o) c H w d := by
  simp only [evDsc, ho, Option.bind_eq_some_iff] at hd
  obtain ⟨v, h1, h2⟩ := hd
  have hx := hρ x v h1
  cases v <;> simp only at h2 <;> first | (cases h2; done) | skip
  case sl len full cs =>
    split at h2
    · rename_i el hti
      simp only [Option.bind_eq_some_iff] at h2
      obtain ⟨i, h2, h', e2, l', e3, m', e4, h5⟩ := h2
      obtain ⟨dd, g1, _, g3⟩ := (hT _ _ hti).und
      have := td_slice g3
      subst this
      have hsz := (hT _ _ h2).size w
      split at h5
      · rename_i hc
        cases h5
        simp only [RV] at hx
        obtain ⟨y, cap, g5, g6, g7, g8, g9⟩ := hx
        have b2 := bound_run hρ e2
        have b3 := bound_run hρ e3
        have b4 := bound_run hρ e4
        obtain ⟨M, hM, hMm, hMc, hhM⟩ : ∃ M, ((m = none ∧ M = cap) ∨ ∃ x k, m = some x ∧ a.eval x = .int k M) ∧ (m.isSome = true → M = m') ∧ M ≤ cap ∧ h' ≤ M := by
          rcases b4 with ⟨e5, e6⟩ | ⟨xm, km, e5, e6⟩
          · exact ⟨cap, .inl ⟨e5, rfl⟩, fun hx => by simp [e5] at hx, Nat.le_refl _, by omega⟩
          · exact ⟨m', .inr ⟨xm, km, e5, e6⟩, fun _ => rfl, by omega, by omega⟩
        have hbr := bounds_run (P := P) (w := w) (isS := true) (len := len) hM hMc (by
          rcases b2 with ⟨e5, e6⟩ | e5
          · refine .inl ⟨e5, e6, ?_⟩
            rcases hc.2.2.2.2.2 with e7 | e7
            · exact e7
            · simp [e5] at e7
          · exact .inr e5) hhM b3 hc.1
        refine ok_val h (x := .slice (if M = l' then y else y.map (·.add (l' * i.size))) (h' - l') (M - l')) (by simp [execOp, ho, g5, Instr.sliceAt, run_underlying g1, Instr.slice, hbr, hsz]) ?_
        simp only [RV]
        refine ⟨_, _, rfl, by omega, fun hf => ?_, fun hn => ?_, fun z hz => ?_⟩
        · cases m with
          | some q => simp only [beq_iff_eq] at hf; rw [hMm rfl, hf]
          | none =>
            simp only [Bool.and_eq_true, beq_iff_eq] at hf
            have : M = cap := by
              rcases hM with ⟨_, e⟩ | ⟨_, _, e, _⟩
              · exact e
              · cases e
            rw [this, g7 hf.1, hf.2]
        · have hy : y = none := by
            split at hn
            · exact hn
            · cases y with
              | none => rfl
              | some _ => simp at hn
          obtain ⟨e5, e6⟩ := g8 hy
          have : h' - l' = 0 := by omega
          rw [this]; simp
        · split at hz
          · rename_i hMl
            have : h' - l' = 0 := by omega
            obtain ⟨e5, e6⟩ := g9 z hz
            rw [this]
            refine ⟨fun h0 => absurd h0 (by omega), ?_⟩
            simp only [Nat.zero_mul, List.take_zero, RVat]
          · cases y with
            | none => simp at hz
            | some y =>
              simp only [Option.map_some, Option.some.injEq] at hz
              obtain ⟨e5, e6⟩ := g9 y rfl
              rcases Nat.eq_zero_or_pos (h' - l') with h0 | h0
              · rw [h0]
                refine ⟨fun h1 => absurd h1 (by omega), ?_⟩
                simp only [Nat.zero_mul, List.take_zero, RVat]
              rw [spot_none (e5 (by omega)), add_mid] at hz
              subst hz
              exact ⟨fun _ => rfl, rvat_take (rvat_drop e6 _) _⟩
      · cases h5
    · cases h2
  case own id off len fin =>
    split at h2
    · split at h2
      · rename_i el hti
        simp only [Option.bind_eq_some_iff] at h2
        obtain ⟨i, hi2, h', e2, h5⟩ := h2
        obtain ⟨dd, g1, _, g3⟩ := (hT _ _ hti).und
        have := td_slice g3
        subst this
        have hsz := (hT _ _ hi2).size w
        split at h5
        · rename_i hc
          cases h5
          simp only [RV] at hx
          refine ok_read h fun ob v hob hf => ?_
          split at hf
          · rename_i k st me cs
            split at hf
            · rename_i hm
              cases hf
              obtain ⟨_, k2, st2, me2, cs2, g4, g5, g6⟩ := hx
              rw [hob] at g4; cases g4
              obtain ⟨b, q, cap, g7, g8, g9, g10, g11⟩ := g6 hm
              have b2 := bound_run hρ e2
              have hbr := bounds_run (P := P) (w := w) (isS := true) (len := len) (a := a) (l := none) (m := none) (l' := 0) (M := cap) (cap := cap) (.inl ⟨rfl, rfl⟩) (Nat.le_refl _) (by
                rcases b2 with ⟨e5, e6⟩ | e5
                · rw [e5] at hc; simp at hc
                · exact .inr e5) (by omega : h' ≤ cap) (.inl ⟨rfl, rfl⟩) (Nat.zero_le _)
              simp only [Option.map_none] at hbr
              have hadd : (if cap = 0 then some (⟨b, q, none⟩ : Addr) else (some (⟨b, q, none⟩ : Addr)).map (·.add (0 * i.size))) = some ⟨b, q, none⟩ := by
                split
                · rfl
                · simp [Addr.add]
              refine ⟨.slice (some ⟨b, q, none⟩) h' cap, ?_, ?_⟩
              · rw [← hadd]
                simp [execOp, ho, g7, Instr.sliceAt, run_underlying g1, Instr.slice, hbr, hsz]
              · simp only [RV, ROwn]
                exact ⟨⟨_, _, rfl, by omega⟩, k, st, me, cs, hob, g5, fun _ => ⟨b, q, cap, rfl, by omega, by omega, g10, g11⟩⟩
            · cases hf
          · cases hf
        · cases h5
      · cases h2
    · cases h2
end
end Go.Av
namespace Go.Av
variable {c : Ctx} {H : Heap} {w : World} {P : Program}

theorem rep_length (z : List V) : ∀ n, (rep z n).length = n * z.length
  | 0 => by simp [rep]
  | n + 1 => by simp [rep, rep_length z n, Nat.add_mul, Nat.add_comm]

theorem rep_get (z : List V) : ∀ n i, i < n * z.length → (rep z n)[i]? = z[i % z.length]?
  | 0, i, h => by simp at h
  | n + 1, i, h => by
    rw [Nat.add_mul, Nat.one_mul] at h
    simp only [rep]
    rcases Nat.lt_or_ge i z.length with hl | hl
    · rw [List.getElem?_append_left hl, Nat.mod_eq_of_lt hl]
    · rw [List.getElem?_append_right hl, rep_get z n (i - z.length) (by omega), Nat.mod_eq_sub_mod hl]

theorem zero_rvs {t : TypeId} {i : TI} (hi : TIok P t i) : ∃ ti z, P.info? t = some ti ∧ ti.size = i.size ∧ ti.bytes = i.bytes ∧ ti.zero = some z ∧ z.cells.size = i.size ∧ ∀ c H w, RVs c H w i.zero z.cells.toList := by
  obtain ⟨ti, z, h1, h2, h3, h4, h5, h6, -⟩ := hi.info
  exact ⟨ti, z, h1, h2, h3, h4, h6, fun c H w => mapM_rvs (fun _ _ => ofVal0_rv) h5⟩

theorem rep_rvs {z : Array Value} {zs : List V} (hz : RVs c H w zs z.toList) (n : Nat) : RVs c H w (rep zs n) (madeCells z (n * z.size)).toList := by
  have hl := RVs_length hz
  have hl' : zs.length = z.size := by simpa using hl
  refine RVs_of (by simp [madeCells, rep_length, hl']) fun i x y hx hy => ?_
  have hi : i < n * zs.length := by
    have := (List.getElem?_eq_some_iff.1 hx).1
    rwa [rep_length] at this
  rw [rep_get zs n i hi] at hx
  obtain ⟨u, hu, hr⟩ := RVs_get hz hx
  simp only [madeCells, Array.toList_map, Array.toList_range, List.getElem?_map] at hy
  rw [hl'] at hi hu
  rw [List.getElem?_range hi] at hy
  simp only [Option.map_some, Option.some.injEq] at hy
  have : z[i % z.size]! = u := by
    rw [Array.getElem!_eq_getD, Array.getD_eq_getD_getElem?, ← Array.getElem?_toList, hu]; rfl
  rw [← hy, this]; exact hr

theorem ok_new (h : RH c H w) {s : Sem Next} {w' : World} {ob : Obj} (hw : w'.heap = w.heap.push ob) {o : Ob} {v : Nat → V} {x : Value}
    (hob : (∃ cs a e, o = .box cs ∧ ob = .cells a e (0, 0) ∧ RVs c H w cs a.toList) ∨
      (∃ k st cs a e, o = .arr k st 0 cs ∧ ob = .cells a e (0, 0) ∧ 0 < k ∧ cs.length ≤ a.size ∧ RVs c H w cs (a.toList.take cs.length)) ∨ (o = .map [] ∧ ∃ n, ob = .map #[] n))
    (hr : s.run P w = .ok (.value x) w') (hv : ∀ c', c'.ρ H.length = w.heap.size → RH c' (H ++ [o]) w' → RV c' (H ++ [o]) w' (v H.length) x) (hio : Outs w w' := by exact ⟨rfl, rfl⟩) : OpOk P s c H w (.new o v) := by
  intro v' pan H' he
  simp only [runN, Option.some.injEq, Prod.mk.injEq] at he
  obtain ⟨rfl, rfl, rfl⟩ := he
  obtain ⟨c', h1, h2, h3⟩ := step_new (hio := hio) h hw o hob
  exact ⟨c', w', x, by simp [Out, hr], h2, h3, hv c' h1 h3⟩

theorem rv_new_box {c' : Ctx} {w' : World} {cs : List V} (h1 : c'.ρ H.length = w.heap.size) : RV c' (H ++ [.box cs]) w' (.bp H.length 0) (.pointer (some ⟨w.heap.size, 0, none⟩)) := by
  simp only [RV]
  exact ⟨⟨cs, by simp⟩, by rw [h1]⟩

theorem rv_new_arr {c' : Ctx} {w' : World} {k len cap : Nat} {st : Bool} {cs : List V} (h1 : c'.ρ H.length = w.heap.size) (hl : cs.length = len * k) (hc : len ≤ cap) {a : Array Value} {e : TypeId} {fr : Nat × Nat}
    (hb : w'.heap[w.heap.size]? = some (.cells a e fr)) (ha : a.size = cap * k) : RV c' (H ++ [.arr k st 0 cs]) w' (.own H.length 0 len len) (.slice (some ⟨w.heap.size, 0, none⟩) len cap) := by
  simp only [RV, ROwn]
  refine ⟨⟨_, _, rfl, hc⟩, k, st, 0, cs, by simp, by omega, fun _ => ⟨w.heap.size, 0, cap, rfl, hc, by omega, ⟨.inl ⟨h1.symm, by omega⟩, fun _ => ⟨h1.symm, by omega⟩⟩, fun _ => ?_⟩⟩
  rw [h1, room_at hb, ha, Nat.zero_add]

section
variable {C : Cfg} (hT : ∀ t i, C.T t = some i → TIok P t i) {fid : FuncId} {o : Oper} {a : Act} {ρ : Operand → Option V} (hρ : ∀ x v, ρ x = some v → RV c H w v (a.eval x)) (h : RH c H w) {d : Dsc} (hd : evDsc C fid o ρ = some d)
include hT hρ h hd

theorem ok_alloc {t : TypeId} (ho : o.op = .alloc t) : OpOk P (execOp a.eval o) c H w d := by
  simp only [evDsc, ho, Option.map_eq_some_iff] at hd
  obtain ⟨i, h1, rfl⟩ := hd
  obtain ⟨ti, z, g1, g2, g3, g4, g5, g6⟩ := zero_rvs (hT _ _ h1)
  refine ok_new (x := .pointer (some ⟨w.heap.size, 0, none⟩)) (w' := w.alloc (.cells z.cells t)) h rfl (.inl ⟨_, z.cells, t, rfl, rfl, g6 c H w⟩) ?_ (fun c' h1 _ => rv_new_box h1)
  simp [execOp, ho, Instr.alloc, zeroValue, typeInfo, g1, g4, newVar, newRow]

theorem ok_box {t : TypeId} {x : Operand} (ho : o.op = .box t x) : OpOk P (execOp a.eval o) c H w d := by
  simp only [evDsc, ho, Option.bind_eq_some_iff] at hd
  obtain ⟨v, h0, i, h1, h2⟩ := hd
  split at h2
  · rename_i hc
    cases h2
    have hx := hρ x v h0
    refine ok_new (x := .pointer (some ⟨w.heap.size, 0, none⟩)) (w' := w.alloc (.cells (a.eval x).cells t)) h rfl (.inl ⟨_, _, t, rfl, rfl, (cells_rv hc.1 hx).1⟩) ?_ (fun c' h1 _ => rv_new_box h1)
    simp [execOp, ho, Instr.box, newVar, newRow]
  · cases h2

theorem ok_makeMap {t : TypeId} {r : Option Operand} (ho : o.op = .makeMap t r) : OpOk P (execOp a.eval o) c H w d := by
  simp only [evDsc, ho] at hd
  split at hd
  · rename_i hr
    cases hd
    have : r = none := by simpa using hr
    subst this
    refine ok_new (x := .map (some w.heap.size)) (w' := w.alloc (.map #[] 0)) h rfl (.inr (.inr ⟨rfl, 0, rfl⟩)) ?_ (fun c' h1 _ => ?_)
    · simp [execOp, ho, Instr.makeMap]
    · simp only [RV]
      exact ⟨⟨[], by simp⟩, by rw [h1]⟩
  · cases hd

theorem ok_makeSlice {t : TypeId} {x y : Operand} (ho : o.op = .makeSlice t x y) : OpOk P (execOp a.eval o) c H w d := by
  simp only [evDsc, ho] at hd
  split at hd
  · rename_i el hti
    simp only [Option.bind_eq_some_iff] at hd
    obtain ⟨i, h2, h3⟩ := hd
    obtain ⟨dd, g1, _, g3⟩ := (hT _ _ hti).und
    have := td_slice g3
    subst this
    split at h3
    · rename_i n m e1 e2
      have hx := hρ x _ e1
      have hy := hρ y _ e2
      simp only [RV] at hx hy
      split at h3
      · rename_i hc
        cases h3
        obtain ⟨ti, z, f1, f2, f3, f4, f5, f6⟩ := zero_rvs (hT _ _ h2)
        obtain ⟨c1, c2, c3, c4, c5⟩ := hc
        subst c2
        have hb : (ti.bytes : Int) * n ≤ 281474976710656 := by
          rw [f3]
          have : ((n.toNat * i.bytes : Nat) : Int) ≤ (roomy : Int) := by exact_mod_cast c4
          rw [Int.natCast_mul, Int.toNat_of_nonneg c1] at this
          simp only [roomy] at this
          rw [Int.mul_comm]
          omega
        have hrun := run_make (P := P) w t el ti z g1 f1 f4 .i64 .i64 n n c1 (Int.le_refl _) hb (by omega)
        have hlen : (rep i.zero n.toNat).length = n.toNat * i.size := by
          rw [rep_length, RVs_length (f6 c H w)]; simp [f5]
        have hsz : (madeCells z.cells (n.toNat * ti.size)).size = n.toNat * i.size := by rw [size_madeCells, f2]
        refine ok_new (x := .slice (some ⟨w.heap.size, 0, none⟩) n.toNat n.toNat) (w' := w.alloc (.cells (madeCells z.cells (n.toNat * ti.size)) el)) h rfl (.inr (.inl ⟨i.size, true, _, _, el, rfl, rfl, by omega, by omega, ?_⟩)) ?_ (fun c' h1 _ => ?_)
        · rw [hlen, ← hsz, ← Array.length_toList, List.take_length, f2, ← f5]
          exact rep_rvs (f6 c H w) _
        · simp [execOp, ho, hx, hy, hrun]
        · exact rv_new_arr h1 hlen (Nat.le_refl _) (heap_alloc_new w _) hsz
      · cases h3
    · cases h3
  · cases hd
end
end Go.Av
namespace Go.Av
variable {c : Ctx} {H : Heap} {w : World} {P : Program}

theorem set_mid (L : List Value) (A : Nat) (x : Value) (l : List Value) (h : A + (l.length + 1) ≤ L.length) :
    (L.set A x).take (A + 1) ++ (l ++ (L.set A x).drop (A + 1 + l.length)) = L.take A ++ (x :: l ++ L.drop (A + (l.length + 1))) := by
  have hl : (L.take A).length = A := by simp; omega
  have h1 : (L.take A ++ x :: L.drop (A + 1)).take (A + 1) = L.take A ++ [x] := by
    rw [List.take_append, hl, show A + 1 - A = 1 by omega, List.take_of_length_le (by rw [hl]; omega)]
    simp
  have h2 : (L.take A ++ x :: L.drop (A + 1)).drop (A + 1 + l.length) = L.drop (A + (l.length + 1)) := by
    rw [List.drop_append, hl, show A + 1 + l.length - A = l.length + 1 by omega, List.drop_of_length_le (by rw [hl]; omega)]
    simp only [List.nil_append, List.drop_succ_cons, List.drop_drop]
    congr 1
    omega
  rw [List.set_eq_take_append_cons_drop, if_pos (by omega), h1, h2]
  simp

theorem foldl_set (off : Nat) : ∀ (l : List Value) (k : Nat) (arr : Array Value), off + k + l.length ≤ arr.size →
    ((l.zipIdx k).foldl (fun cs p => cs.setIfInBounds (off + p.2) p.1) arr).toList = arr.toList.take (off + k) ++ (l ++ arr.toList.drop (off + k + l.length))
  | [], k, arr, _ => by simp
  | x :: l, k, arr, h => by
    simp only [List.length_cons] at h
    have ih := foldl_set off l (k + 1) (arr.setIfInBounds (off + k) x) (by simp; omega)
    simp only [List.zipIdx_cons, List.foldl_cons]
    rw [ih]
    simp only [Array.toList_setIfInBounds, List.length_cons, ← Nat.add_assoc off k 1]
    exact set_mid arr.toList (off + k) x l (by simp; omega)

theorem place_cells (off : Nat) (v arr : Array Value) (h : off + v.size ≤ arr.size) :
    (v.zipIdx.foldl (fun cs p => cs.setIfInBounds (off + p.2) p.1) arr).toList = arr.toList.take off ++ (v.toList ++ arr.toList.drop (off + v.size)) := by
  have := foldl_set off v.toList 0 arr (by simpa using h)
  rw [← Array.foldl_toList, Array.toList_zipIdx]
  simpa using this

theorem splice_rv {cs cs' vs : List V} {arr ys : List Value} {off : Nat} (hc : RVs c H w cs arr) (hv : RVs c H w vs ys) (hs : splice cs off vs = some cs') :
    off + ys.length ≤ arr.length ∧ cs'.length = cs.length ∧ RVs c H w cs' (arr.take off ++ (ys ++ arr.drop (off + ys.length))) := by
  unfold splice at hs
  have l1 := RVs_length hc
  have l2 := RVs_length hv
  split at hs
  · rename_i hle
    cases hs
    refine ⟨by omega, by simp; omega, RVs_append (RVs_take hc off) (RVs_append hv ?_)⟩
    rw [l2]
    exact RVs_drop hc _
  · cases hs

theorem fill_ops {a : Act} {ρ : Operand → Option V} (hρ : ∀ x v, ρ x = some v → RV c H w v (a.eval x)) {place : Nat → Option (Nat × Nat)} : ∀ {xs : List (Nat × Operand)} {vs : List (Nat × V)} {cs cs' : List V} {arr : Array Value},
    xs.mapM (fun p => (ρ p.2).map fun v => (p.1, v)) = some vs → RVs c H w cs arr.toList → fillParts place cs vs = some cs' →
    ∃ arr', Instr.fill place arr (xs.map fun p => (p.1, a.eval p.2)) = some arr' ∧ RVs c H w cs' arr'.toList
  | [], vs, cs, cs', arr, hx, hc, hf => by
    simp at hx
    subst hx
    simp only [fillParts, Option.some.injEq] at hf
    subst hf
    exact ⟨arr, by simp [Instr.fill], hc⟩
  | (i, x) :: xs, vs, cs, cs', arr, hx, hc, hf => by
    simp only [List.mapM_cons, Option.bind_eq_bind, Option.pure_def, Option.bind_eq_some_iff, Option.map_eq_some_iff, Option.some.injEq] at hx
    obtain ⟨p, ⟨v, h1, rfl⟩, ys, h2, rfl⟩ := hx
    simp only [fillParts] at hf
    split at hf
    · cases hf
    · rename_i off size hp
      split at hf
      · rename_i hs
        simp only [Option.bind_eq_some_iff] at hf
        obtain ⟨cs1, h3, h4⟩ := hf
        have hv := cells_rv hs.1 (hρ x v h1)
        obtain ⟨g1, g2, g3⟩ := splice_rv hc hv.1 h3
        have hsz : (a.eval x).cells.size = size := by
          have := RVs_length hv.1
          simp at this
          omega
        simp only [Array.length_toList] at g1 g3
        have hpc := place_cells off (a.eval x).cells arr g1
        rw [← hpc] at g3
        obtain ⟨arr', h5, h6⟩ := fill_ops hρ h2 g3 h4
        refine ⟨arr', ?_, h6⟩
        simp only [List.map_cons, Instr.fill, hp]
        rw [if_neg (by simp [hsz]; omega)]
        exact h5
      · cases hf

theorem splen (place : Nat → Option (Nat × Nat)) : ∀ {vs : List (Nat × V)} {cs cs' : List V}, fillParts place cs vs = some cs' → cs'.length = cs.length
  | [], cs, cs', h => by simp only [fillParts, Option.some.injEq] at h; rw [h]
  | (i, v) :: vs, cs, cs', h => by
    simp only [fillParts] at h
    split at h
    · cases h
    · split at h
      · simp only [Option.bind_eq_some_iff] at h
        obtain ⟨cs1, h1, h2⟩ := h
        rw [splen place h2]
        unfold splice at h1
        split at h1
        · cases h1; simp; omega
        · cases h1
      · cases h

theorem places_of {C : Cfg} (hT : ∀ t i, C.T t = some i → TIok P t i) : ∀ {fs : List Field} {places : List (Nat × Nat)},
    (fs.map fun f => (f.offset, f.type)).mapM (fun p => (C.T p.2).map fun j => (p.1, j.size)) = some places →
    fs.mapM (fun f => (P.info? f.type).map fun i => (f.offset, i.size)) = some places
  | [], places, h => by simpa using h
  | f :: fs, places, h => by
    simp only [List.map_cons, List.mapM_cons, Option.bind_eq_bind, Option.pure_def, Option.bind_eq_some_iff, Option.map_eq_some_iff, Option.some.injEq] at h
    obtain ⟨p, ⟨j, h1, rfl⟩, ys, h2, rfl⟩ := h
    obtain ⟨ti, z, g1, g2, _⟩ := (hT _ _ h1).info
    simp only [List.mapM_cons, Option.bind_eq_bind, Option.pure_def, places_of hT h2, g1, Option.map_some, Option.bind_some, g2]

section
variable {C : Cfg} (hT : ∀ t i, C.T t = some i → TIok P t i) {fid : FuncId} {o : Oper} {a : Act} {ρ : Operand → Option V} (hρ : ∀ x v, ρ x = some v → RV c H w v (a.eval x)) (h : RH c H w) {d : Dsc} (hd : evDsc C fid o ρ = some d)
include hT hρ h hd

theorem ok_build {t : TypeId} {ps : Array (Nat × Operand)} (ho : o.op = .build t ps) : OpOk P (execOp a.eval o) c H w d := by
  simp only [evDsc, ho] at hd
  split at hd
  · rename_i fs zero hti
    simp only [Option.bind_eq_some_iff, Option.map_eq_some_iff] at hd
    obtain ⟨places, h1, vs, h2, cs, h3, rfl⟩ := hd
    obtain ⟨dd, g1, _, g3⟩ := (hT _ _ hti).und
    obtain ⟨gs, rfl, g4⟩ := td_struct g3
    subst g4
    obtain ⟨ti, z, f1, f2, f3, f4, f5, f6⟩ := zero_rvs (hT _ _ hti)
    have hpl := places_of hT h1
    obtain ⟨arr, e1, e2⟩ := fill_ops hρ (place := (places[·]?)) h2 (f6 c H w) h3
    have hb : P.built t (ps.map fun p => (p.1, a.eval p.2)).toList = some arr := by
      simp only [Program.built, f1, g1, f4, hpl, Array.toList_map]
      simpa using e1
    refine ok_val h (x := .agg arr) ?_ (by simp only [RV]; exact ⟨arr, rfl, e2⟩)
    simp [execOp, ho, run_build (P := P) w t _ arr hb]
  · cases hd

theorem ok_buildSlice {t : TypeId} {len : Nat} {ps : Array (Nat × Operand)} (ho : o.op = .buildSlice t len ps) : OpOk P (execOp a.eval o) c H w d := by
  simp only [evDsc, ho] at hd
  split at hd
  · rename_i el hti
    simp only [Option.bind_eq_some_iff] at hd
    obtain ⟨i, h1, vs, h2, h3⟩ := hd
    obtain ⟨dd, g1, _, g3⟩ := (hT _ _ hti).und
    have := td_slice g3
    subst this
    split at h3
    · cases h3
    rename_i hsmall
    simp only [Option.map_eq_some_iff] at h3
    obtain ⟨cs, h3, h4⟩ := h3
    obtain ⟨ti, z, f1, f2, f3, f4, f5, f6⟩ := zero_rvs (hT _ _ h1)
    have hz := rep_rvs (f6 c H w) len
    obtain ⟨arr, e1, e2⟩ := fill_ops hρ (place := fun j => some (j * i.size, i.size)) h2 hz h3
    -- the row that is laid
    have hrun : (execOp a.eval o).run P w = .ok (.value (.slice (some ⟨w.heap.size, 0, none⟩) len len)) (w.alloc (.cells arr el)) := by
      have hfill : Instr.fill (fun j => some (j * ti.size, ti.size)) (madeCells z.cells (len * z.cells.size)) ((ps.map fun p => (p.1, a.eval p.2)).toList) = some arr := by
        rw [f2, Array.toList_map]; exact e1
      by_cases h0 : len * i.size = 0
      · have hm : madeCells z.cells (len * z.cells.size) = #[] := by
          apply Array.eq_empty_of_size_eq_zero
          rw [size_madeCells, f5]; exact h0
        rw [hm, f2] at hfill
        simp [execOp, ho, Instr.buildSlice, run_underlying g1, sizeOf, typeInfo, f1, f2, h0, newRow]
        have hr0 : (Array.map (fun _ => (default : Value)) (Array.range 0)) = #[] := by simp
        have hl0 : (List.map (fun (x : Nat × Operand) => (x.fst, a.eval x.snd)) ps.toList) = (ps.map fun p => (p.1, a.eval p.2)).toList := by simp
        rw [hr0, hl0, hfill]
        simp
      · have hs : ¬ len * ti.size > 2 ^ 24 := by rw [f2]; omega
        have := run_buildSlice (P := P) w t el len (ps.map fun p => (p.1, a.eval p.2)) arr ti z g1 f1 f4 hs (by rw [f2]; exact h0) (by rw [f2, ← f5] at hfill ⊢; exact hfill)
        simp [execOp, ho, this]
    have hlen : cs.length = len * i.size := by
      have l1 := RVs_length e2
      have := splen (fun j => some (j * i.size, i.size)) h3
      rw [this, rep_length, RVs_length (f6 c H w)]; simp [f5]
    have harr : arr.size = len * i.size := by rw [← hlen, RVs_length e2]; simp
    split at h4
    · cases h4
      refine ok_new (x := .slice (some ⟨w.heap.size, 0, none⟩) len len) (w' := w.alloc (.cells arr el)) h rfl (.inr (.inl ⟨i.size, true, cs, arr, el, rfl, rfl, by omega, by omega, ?_⟩)) hrun (fun c' h1 _ => rv_new_arr h1 hlen (Nat.le_refl _) (heap_alloc_new w _) harr)
      rw [hlen, ← harr, ← Array.length_toList, List.take_length]; exact e2
    · cases h4
      intro v' pan H' he
      simp only [runN, Option.some.injEq, Prod.mk.injEq] at he
      obtain ⟨rfl, rfl, rfl⟩ := he
      obtain ⟨c', e3, e4, e5⟩ := step_row (w' := w.alloc (.cells arr el)) h (a := arr) (e := el) (fr := (0, 0)) rfl
      refine ⟨c', w.alloc (.cells arr el), .slice (some ⟨w.heap.size, 0, none⟩) len len, by simp [Out, hrun], e3, e4, ?_⟩
      simp only [RV]
      refine ⟨_, _, rfl, Nat.le_refl _, fun _ => rfl, (fun hx => by cases hx), fun x hx => ?_⟩
      cases hx
      exact ⟨fun _ => rfl, e5 cs e2⟩
  · cases hd
end
end Go.Av
