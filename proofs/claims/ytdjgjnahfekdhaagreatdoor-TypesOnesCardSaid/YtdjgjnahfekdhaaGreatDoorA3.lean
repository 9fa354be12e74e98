/- Operations of the evaluator: maps, appends, conversions. Conditions: none beyond the hypotheses of each theorem. -/
import Derived.Test.YtdjgjnahfekdhaaGreatDoorA2
import Derived.Maps.Keyed
import Derived.Laws.AppendOwn
import Derived.Laws.BytesString
import Derived.Lib.ConvBytes
set_option linter.unusedSectionVars false
set_option linter.unusedVariables false
set_option linter.unusedSimpArgs false
namespace Go.Av
variable {c : Ctx} {H : Heap} {w : World} {P : Program}

theorem args_one {xs : Array Operand} {f : Operand → Value} {v : V} (h : RVs c H w [v] (xs.toList.map f)) : ∃ y, xs.map f = #[y] ∧ RV c H w v y := by
  simp only [RVs] at h
  obtain ⟨y, ys, h1, h2, rfl⟩ := h
  refine ⟨y, ?_, h2⟩
  apply Array.ext'
  simpa using h1

theorem args_two {xs : Array Operand} {f : Operand → Value} {v u : V} (h : RVs c H w [v, u] (xs.toList.map f)) : ∃ y z, xs.map f = #[y, z] ∧ RV c H w v y ∧ RV c H w u z := by
  simp only [RVs] at h
  obtain ⟨y, ys, h1, h2, z, zs, rfl, h3, rfl⟩ := h
  refine ⟨y, z, ?_, h2, h3⟩
  apply Array.ext'
  simpa using h1

theorem take_splice {α : Type} (L : List α) (n off : Nat) (ys : List α) (h : off + ys.length ≤ n) (hn : n ≤ L.length) :
    (L.take off ++ ys ++ L.drop (off + ys.length)).take n = (L.take n).take off ++ (ys ++ (L.take n).drop (off + ys.length)) := by
  have h1 : (L.take off).length = off := by simp; omega
  have h2 : (L.take off ++ ys).length = off + ys.length := by rw [List.length_append, h1]
  rw [List.take_append, h2, List.take_of_length_le (by omega), List.take_take, show min off n = off by omega, List.append_assoc, List.drop_take]

theorem free_cell {g j : Nat} {cur : Array Value} {t : TypeId} {fr : Nat × Nat} (hf : Thawed cur fr) (hg : w.heap[g]? = some (.cells cur t fr)) (hj : j < cur.size) : w.frozen? ⟨g, j, none⟩ = false := by
  simp only [World.frozen?, hg]
  rcases hf with hf | hf
  · simp; omega
  · simp; omega

theorem Thawed.of_size {a b : Array Value} {fr : Nat × Nat} (h : Thawed a fr) (hs : b.size = a.size) : Thawed b fr := h.imp id fun h => by rw [hs]; exact h

theorem run_storeCells_free (P : Program) (g o : Nat) (t : TypeId) (fr : Nat × Nat) : ∀ (vs : List Value) (i : Nat) (cur : Array Value) (w : World), w.heap[g]? = some (.cells cur t fr) → Thawed cur fr → o + i + vs.length ≤ cur.size → (∀ v ∈ vs, v.oneCell' = true) →
    (storeCells ⟨g, o, none⟩ vs i).run P w = .ok () (w.setRow g (cur.toList.take (o + i) ++ vs ++ cur.toList.drop (o + i + vs.length)).toArray)
  | [], i, cur, w, hg, hf, _, _ => by
    simp only [storeCells, List.append_nil, List.length_nil, Nat.add_zero, List.take_append_drop, Array.toArray_toList]
    rw [setRow_self w g cur t fr hg]
    rfl
  | v :: rest, i, cur, w, hg, hf, hl, h1 => by
    have hi : o + i < cur.size := by simp at hl; omega
    have hadd : (⟨g, o, none⟩ : Addr).add i = ⟨g, o + i, none⟩ := by unfold Addr.add; split <;> simp_all
    have hcell : w.cell? ⟨g, o + i, none⟩ = some cur[o + i] := by simp [World.cell?, hg, hi]
    have hfro : w.frozen? ⟨g, o + i, none⟩ = false := free_cell hf hg hi
    have hst : (store ((⟨g, o, none⟩ : Addr).add i) v).run P w = .ok () (w.setRow g (cur.setIfInBounds (o + i) v)) := by
      rw [hadd, run_store P w _ v _ (h1 v (by simp)), hcell]
      simp [hfro, setCell_eq_setRow w g (o + i) cur t fr v hg]
    have ih := run_storeCells_free P g o t fr rest (i + 1) (cur.setIfInBounds (o + i) v) (w.setRow g (cur.setIfInBounds (o + i) v)) (setRow_heap w g cur _ t _ hg) (hf.of_size (by simp)) (by simp at hl ⊢; omega) (fun x hx => h1 x (by simp [hx]))
    simp only [storeCells, Sem.run_bind, hst, Result.andThen_ok, ih, setRow_setRow]
    congr 3
    have e := list_seg_step cur.toList (o + i) v rest (by simp at hl ⊢; omega)
    simpa [Array.toList_setIfInBounds, Nat.add_assoc] using e

section
variable {C : Cfg} (hT : ∀ t i, C.T t = some i → TIok P t i) {fid : FuncId} {o : Oper} {a : Act} {ρ : Operand → Option V} (hρ : ∀ x v, ρ x = some v → RV c H w v (a.eval x)) (h : RH c H w) {d : Dsc}
include hT hρ h

theorem und_of {k : Call} {i : TI} (hk : (k.argTypes[0]?).bind C.T = some i) : ∃ t dd, k.argTypes[0]? = some t ∧ P.underlying t = some dd ∧ tdOf dd = i.d := by
  simp only [Option.bind_eq_some_iff] at hk
  obtain ⟨t, h1, h2⟩ := hk
  obtain ⟨dd, g1, _, g3⟩ := (hT _ _ h2).und
  exact ⟨t, dd, h1, g1, g3⟩

theorem ok_len {k : Call} (ho : o.op = .call k) (hb : k.callee = .builtin .len) (hd : evDsc C fid o ρ = some d) : OpOk P (execOp a.eval o) c H w d := by
  simp only [evDsc, ho, hb, Option.bind_eq_some_iff] at hd
  obtain ⟨args, h1, h2⟩ := hd
  have hr := mapM_ops hρ h1
  have key : ∀ (y x : Value) t, k.args.map a.eval = #[y] → k.argTypes[0]? = some t → (Builtin.len_ k.argTypes o.type #[y]).run P w = .ok x w → (execOp a.eval o).run P w = .ok (.value x) w := fun y x t e1 e2 e3 => by
    simp [execOp, ho, resolve, hb, e1, invoke, builtin, e3]
  split at h2 <;> first | (cases h2; done) | contradiction | skip
  · rename_i s _
    split at h2
    · rename_i hk
      cases h2
      obtain ⟨y, e1, e2⟩ := args_one hr
      simp only [RV] at e2
      obtain ⟨t, dd, g1, g2, g3⟩ := und_of hT hρ h hk
      have := td_str g3
      subst this
      exact ok_val h (key y (goInt s.size) t e1 g1 (by simp [Builtin.len_, g1, e2, run_underlying g2])) (by simp only [RV, goInt])
    · cases h2
  · rename_i n full cs _
    split at h2
    · rename_i hk
      cases h2
      obtain ⟨y, e1, e2⟩ := args_one hr
      simp only [RV] at e2
      obtain ⟨b, cap, e2, _⟩ := e2
      obtain ⟨t, dd, g1, g2, g3⟩ := und_of hT hρ h hk
      have := td_slice g3
      subst this
      exact ok_val h (key y (goInt n) t e1 g1 (by simp [Builtin.len_, g1, e2, run_underlying g2])) (by simp only [RV, goInt])
    · cases h2
  · rename_i id off n fin _
    split at h2
    · rename_i hk
      cases h2
      obtain ⟨y, e1, e2⟩ := args_one hr
      simp only [RV, ROwn] at e2
      obtain ⟨⟨b, cap, e2, _⟩, _⟩ := e2
      obtain ⟨t, dd, g1, g2, g3⟩ := und_of hT hρ h hk
      have := td_slice g3
      subst this
      exact ok_val h (key y (goInt n) t e1 g1 (by simp [Builtin.len_, g1, e2, run_underlying g2])) (by simp only [RV, goInt])
    · cases h2
  · rename_i id _
    split at h2
    · rename_i hk
      cases h2
      obtain ⟨y, e1, e2⟩ := args_one hr
      simp only [RV] at e2
      obtain ⟨⟨es0, e3⟩, e2⟩ := e2
      obtain ⟨t, dd, g1, g2, g3⟩ := und_of hT hρ h hk
      have := td_map g3
      subst this
      refine ok_read h fun ob v hob hf => ?_
      split at hf
      · rename_i es
        cases hf
        have hro := h.ob _ _ hob
        simp only [RO] at hro
        obtain ⟨_, _, _, ents, clock, f1, f2, _⟩ := hro
        have hget : (getObj (c.ρ id)).run P w = .ok (.map ents clock) w := by simp [getObj, Sem.run, f1]
        exact ⟨goInt ents.size, key y _ t e1 g1 (by simp [Builtin.len_, g1, e2, run_underlying g2, hget]), by simp only [RV, goInt, f2]⟩
      · cases hf
    · cases h2

theorem ok_max {k : Call} (ho : o.op = .call k) (hb : k.callee = .builtin .max) (hd : evDsc C fid o ρ = some d) : OpOk P (execOp a.eval o) c H w d := by
  simp only [evDsc, ho, hb, Option.bind_eq_some_iff] at hd
  obtain ⟨args, h1, h2⟩ := hd
  have hr := mapM_ops hρ h1
  split at h2 <;> first | (cases h2; done) | contradiction | skip
  rename_i kk p kk' q _
  split at h2
  · rename_i he
    cases h2
    obtain ⟨y, z, e1, e2, e3⟩ := args_two hr
    simp only [RV] at e2 e3
    refine ok_val h (x := .int kk (if q > p then q else p)) ?_ (by simp only [RV])
    simp [execOp, ho, resolve, hb, e1, invoke, builtin, Builtin.max_, Builtin.max2, e2, e3]
  · cases h2

theorem run_store_row {b off : Nat} {t ty : TypeId} {i : TI} (hi : TIok P ty i) {cur : Array Value} {fr : Nat × Nat} (hf : Thawed cur fr) (hg : w.heap[b]? = some (.cells cur t fr)) {v : Value} (hv : v.cells.toList.all (·.oneCell') = true)
    (hs : v.cells.size = i.size) (hl : off + v.cells.size ≤ cur.size) :
    (storeVar ty ⟨b, off, none⟩ v).run P w = .ok () (w.setRow b (cur.toList.take off ++ v.cells.toList ++ cur.toList.drop (off + v.cells.size)).toArray) := by
  have h1 := run_storeCells_free P b off t fr v.cells.toList 0 cur w hg hf (by simpa using hl) (fun x hx => List.all_eq_true.1 hv x hx)
  simp only [Nat.add_zero, Array.length_toList] at h1
  simp [storeVar, hi.size w, hs, h1]

theorem ok_store {t : TypeId} {x y : Operand} (ho : o.op = .store t x y) (hd : evDsc C fid o ρ = some d) : OpOk P (execOp a.eval o) c H w d := by
  simp only [evDsc, ho, Option.bind_eq_some_iff] at hd
  obtain ⟨p, h1, v, h2, i, h3, h4⟩ := hd
  have hp := hρ x p h1
  have hv := hρ y v h2
  unfold storeD at h4
  split at h4
  · rename_i hc
    obtain ⟨hr, h1c⟩ := cells_rv hc.1 hv
    have hsz : (a.eval y).cells.size = i.size := by
      have := RVs_length hr
      simp at this
      omega
    have key : ∀ b off cur e fr, a.eval x = .pointer (some ⟨b, off, none⟩) → Thawed cur fr → w.heap[b]? = some (.cells cur e fr) → off + (a.eval y).cells.size ≤ cur.size →
        (execOp a.eval o).run P w = .ok .skip (w.setRow b (cur.toList.take off ++ (a.eval y).cells.toList ++ cur.toList.drop (off + (a.eval y).cells.size)).toArray) := fun b off cur e fr e1 ef e2 e3 => by
      have := run_store_row (P := P) hT hρ h (hT _ _ h3) ef e2 h1c hsz e3
      simp [execOp, ho, e1, Instr.storeAt, Instr.sureAddr, this]
    split at h4 <;> cases h4
    · rename_i t0 off
      simp only [RV] at hp
      obtain ⟨⟨cs0, g0⟩, g1⟩ := hp
      intro v' pan H' he
      simp only [runN, Option.map_eq_some_iff, Option.bind_eq_some_iff, Prod.mk.injEq] at he
      obtain ⟨ob, ⟨ob0, g2, g3⟩, rfl, rfl, rfl⟩ := he
      split at g3
      · rename_i cs
        simp only [Option.map_eq_some_iff] at g3
        obtain ⟨cs', g4, rfl⟩ := g3
        have hro := h.ob _ _ g2
        simp only [RO] at hro
        obtain ⟨r1, r2, r3, ar, e, r4, r5⟩ := hro
        obtain ⟨s1, s2, s3⟩ := splice_rv r5 hr g4
        simp only [Array.length_toList] at s1 s3
        have hrun := key _ _ _ _ _ g1 (.inl (Nat.le_refl 0)) r4 s1
        obtain ⟨e1, e2⟩ := step_box h g2 (w' := w.setRow (c.ρ t0) (ar.toList.take off ++ (a.eval y).cells.toList ++ ar.toList.drop (off + (a.eval y).cells.size)).toArray) (by simp) (fun b hb => setRow_other w _ b _ hb)
          (setRow_heap w _ ar _ e _ r4) (cs' := cs') (by rw [List.append_assoc]; simpa using s3)
        exact ⟨c, _, undef, by simp [Out, hrun], e1, e2, by simp only [RV]⟩
      · cases g3
    · rename_i t0 off fin
      simp only [RV] at hp
      intro v' pan H' he
      simp only [runN, Option.map_eq_some_iff, Option.bind_eq_some_iff, Prod.mk.injEq] at he
      obtain ⟨ob, ⟨ob0, g2, g3⟩, rfl, rfl, rfl⟩ := he
      split at g3
      · rename_i k st me cs
        split at g3
        · rename_i hm
          simp only [Option.map_eq_some_iff] at g3
          obtain ⟨cs', g4, rfl⟩ := g3
          obtain ⟨_, k2, st2, me2, cs2, f1, f2, f3⟩ := hp
          rw [g2] at f1; cases f1
          obtain ⟨b, q, f4, f5⟩ := f3 hm.2.2
          have hbq := f5.2 hm.2.1
          rw [hbq.1, hbq.2] at f4
          obtain ⟨r1, r2, r3, hk, ar, e, ⟨fr, hfr, r4⟩, r5, r6⟩ := RO.arr h g2
          obtain ⟨s1, s2, s3⟩ := splice_rv r6 hr g4
          simp only [Array.length_toList, List.length_take] at s1 s3
          have hfit : off + (a.eval y).cells.size ≤ ar.size := by omega
          have hrun := key _ _ _ _ _ f4 hfr r4 hfit
          have hst := hm.1
          subst hst
          have hsize : (ar.toList.take off ++ (a.eval y).cells.toList ++ ar.toList.drop (off + (a.eval y).cells.size)).toArray.size = room w (c.ρ t0) := by
            rw [room_at r4]; simp; omega
          obtain ⟨e1, e2⟩ := step_arr h g2 hm.2.1 hm.2.2 s2 (w' := w.setRow (c.ρ t0) (ar.toList.take off ++ (a.eval y).cells.toList ++ ar.toList.drop (off + (a.eval y).cells.size)).toArray) (by simp) (fun b hb => setRow_other w _ b _ hb)
            (hfr.of_size (by rw [hsize, room_at r4])) (setRow_heap w _ ar _ e _ r4) hsize (by
              have hcs : cs'.length = cs.length := s2
              rw [hcs]
              have : (ar.toList.take off ++ (a.eval y).cells.toList ++ ar.toList.drop (off + (a.eval y).cells.size)).take cs.length =
                  (ar.toList.take cs.length).take off ++ ((a.eval y).cells.toList ++ (ar.toList.take cs.length).drop (off + (a.eval y).cells.size)) := by
                have := take_splice ar.toList cs.length off (a.eval y).cells.toList (by simp; omega) (by simpa using r5)
                simpa using this
              rw [List.toList_toArray, this]
              exact s3)
          exact ⟨c, _, undef, by simp [Out, hrun], e1, e2, by simp only [RV]⟩
        · cases g3
      · cases g3
  · cases h4
end
end Go.Av
namespace Go.Av
open Go.Maps
variable {c : Ctx} {H : Heap} {w : World} {P : Program}

theorem strEq_iff {a b : ByteArray} : strEq a b = true ↔ a = b := by
  unfold strEq
  rw [beq_iff_eq]
  constructor
  · intro h
    cases a; cases b
    simp at h
    simp [h]
  · intro h; rw [h]

theorem keyEqs_sound : ∀ {xs ys : List V} {b : Bool} {us vs : List Value}, keyEqs xs ys = some b → RVs c H w xs us → RVs c H w ys vs → (b = true ↔ us = vs)
  | [], [], b, us, vs, h, hx, hy => by
    simp only [keyEqs, Option.some.injEq] at h
    simp only [RVs] at hx hy
    subst h; subst hx; subst hy; simp
  | [], y :: ys, b, us, vs, h, hx, hy => by simp [keyEqs] at h
  | x :: xs, [], b, us, vs, h, hx, hy => by cases x <;> simp [keyEqs] at h
  | x :: xs, y :: ys, b, us, vs, h, hx, hy => by
    simp only [RVs] at hx hy
    obtain ⟨u, us, rfl, h1, h2⟩ := hx
    obtain ⟨v, vs, rfl, h3, h4⟩ := hy
    cases x <;> cases y <;> simp only [keyEqs] at h <;> first | (cases h; done) | skip
    · simp only [RV] at h1 h3
      subst h1; subst h3
      split at h
      · rename_i hk
        subst hk
        split at h
        · rename_i he
          have := keyEqs_sound h h2 h4
          subst he
          rw [this]; simp
        · rename_i he
          simp only [Option.map_eq_some_iff] at h
          obtain ⟨_, _, rfl⟩ := h
          simp only [Bool.false_eq_true, false_iff, List.cons.injEq, Value.int.injEq, true_and, not_and]
          exact fun hx => absurd hx he
      · cases h
    · simp only [RV] at h1 h3
      subst h1; subst h3
      split at h
      · rename_i he
        have := keyEqs_sound h h2 h4
        rw [this, strEq_iff.1 he]; simp
      · rename_i he
        simp only [Option.map_eq_some_iff] at h
        obtain ⟨_, _, rfl⟩ := h
        simp only [Bool.false_eq_true, false_iff, List.cons.injEq, Value.string.injEq, not_and]
        exact fun hx => absurd (strEq_iff.2 hx) he

theorem keyEq_sound {x y : V} {b : Bool} {u v : Value} (h : x.keyEq y = some b) (hx : RV c H w x u) (hy : RV c H w y v) : b = true ↔ u = v := by
  cases x <;> cases y <;> simp only [V.keyEq] at h <;> first | (cases h; done) | skip
  · simp only [RV] at hx hy
    subst hx; subst hy
    split at h
    · rename_i hk
      cases h; subst hk; simp
    · cases h
  · simp only [RV] at hx hy
    subst hx; subst hy
    cases h; simp
  · simp only [RV] at hx hy
    subst hx; subst hy
    cases h
    rw [strEq_iff]; simp
  · simp only [RV] at hx hy
    obtain ⟨p, rfl, hx⟩ := hx
    obtain ⟨q, rfl, hy⟩ := hy
    rw [keyEqs_sound h hx hy]
    constructor
    · intro h; rw [Array.ext' h]
    · intro h; cases h; rfl

theorem off_ne {k : V} {p : V × V} {x y : Value} (h : k.off p = true) (hk : RV c H w k x) (hp : RV c H w p.1 y) : y ≠ x := by
  unfold V.off at h
  split at h
  · rename_i he
    have := keyEq_sound he hk hp
    intro e
    have := this.2 e.symm
    cases this
  · cases h

/-- the entries as the map's block has them -/
def Ents (c : Ctx) (H : Heap) (w : World) (es : List (V × V)) (ents : List MapEntry) : Prop :=
  es.length = ents.length ∧ ∀ (i : Nat) (p : V × V) (e : MapEntry), es[i]? = some p → ents[i]? = some e → RV c H w p.1 e.key ∧ RV c H w p.2 e.val

theorem Ents.tail {p : V × V} {es : List (V × V)} {e : MapEntry} {ents : List MapEntry} (h : Ents c H w (p :: es) (e :: ents)) : Ents c H w es ents :=
  ⟨by simpa using h.1, fun i q f hq hf => h.2 (i + 1) q f (by simpa using hq) (by simpa using hf)⟩

theorem off_all {k : V} {x : Value} (hk : RV c H w k x) {es : List (V × V)} {ents : List MapEntry} (h : Ents c H w es ents) (ha : es.all k.off = true) : ∀ e ∈ ents, e.key ≠ x := fun e he => by
  obtain ⟨i, hi⟩ := List.getElem?_of_mem he
  have hl : i < es.length := by rw [h.1]; exact (List.getElem?_eq_some_iff.1 hi).1
  have hp := List.getElem?_eq_getElem hl
  exact off_ne (List.all_eq_true.1 ha _ (List.getElem_mem hl)) hk (h.2 i _ e hp hi).1

/-- where a key is found, and that it stands nowhere else -/
theorem find_sound {k : V} {x : Value} (hk : RV c H w k x) : ∀ {es : List (V × V)} {ents : List MapEntry} {r : Option V}, Ents c H w es ents → mapFind k es = some r →
    (r = none ∧ ∀ e ∈ ents, e.key ≠ x) ∨ ∃ i v e, r = some v ∧ ents[i]? = some e ∧ e.key = x ∧ RV c H w v e.val ∧ ∀ (j : Nat) (f : MapEntry), ents[j]? = some f → f.key = x → j = i
  | [], ents, r, h, hf => by
    simp only [mapFind, Option.some.injEq] at hf
    have : ents = [] := List.eq_nil_of_length_eq_zero (by simpa using h.1.symm)
    subst this
    exact .inl ⟨hf.symm, fun e he => by cases he⟩
  | p :: es, [], r, h, hf => by have := h.1; simp at this
  | p :: es, e :: ents, r, h, hf => by
    have h0 := h.2 0 p e (by simp) (by simp)
    simp only [mapFind] at hf
    split at hf
    · cases hf
    · rename_i he
      split at hf
      · rename_i ha
        cases hf
        have hx := (keyEq_sound he hk h0.1).1 rfl
        refine .inr ⟨0, p.2, e, rfl, by simp, hx.symm, h0.2, fun j f hj hfk => ?_⟩
        cases j with
        | zero => rfl
        | succ j =>
          simp only [List.getElem?_cons_succ] at hj
          exact absurd hfk (off_all hk h.tail ha f (List.mem_of_getElem? hj))
      · cases hf
    · rename_i he
      have hne : e.key ≠ x := fun hx => by
        have := (keyEq_sound he hk h0.1).2 hx.symm
        cases this
      rcases find_sound hk h.tail hf with ⟨h1, h2⟩ | ⟨i, v, f, h1, h2, h3, h4, h5⟩
      · refine .inl ⟨h1, fun g hg => ?_⟩
        rcases List.mem_cons.1 hg with rfl | hg
        · exact hne
        · exact h2 g hg
      · refine .inr ⟨i + 1, v, f, h1, by simpa using h2, h3, h4, fun j g hj hg => ?_⟩
        cases j with
        | zero =>
          simp only [List.getElem?_cons_zero, Option.some.injEq] at hj
          subst hj; exact absurd hg hne
        | succ j => rw [h5 j g (by simpa using hj) hg]

/-- where an entry is laid -/
theorem put_sound {k v : V} {x : Value} (hk : RV c H w k x) : ∀ {es es' : List (V × V)} {ents : List MapEntry}, Ents c H w es ents → mapPut k v es = some es' →
    ((∀ e ∈ ents, e.key ≠ x) ∧ es' = es ++ [(k, v)]) ∨ ∃ i e, ents[i]? = some e ∧ e.key = x ∧ es' = es.set i (k, v) ∧ ∀ (j : Nat) (f : MapEntry), ents[j]? = some f → f.key = x → j = i
  | [], es', ents, h, hf => by
    simp only [mapPut, Option.some.injEq] at hf
    have : ents = [] := List.eq_nil_of_length_eq_zero (by simpa using h.1.symm)
    subst this
    exact .inl ⟨(fun e he => by cases he), by simpa using hf.symm⟩
  | p :: es, es', [], h, hf => by have := h.1; simp at this
  | p :: es, es', e :: ents, h, hf => by
    have h0 := h.2 0 p e (by simp) (by simp)
    simp only [mapPut] at hf
    split at hf
    · cases hf
    · rename_i he
      split at hf
      · rename_i ha
        cases hf
        have hx := (keyEq_sound he hk h0.1).1 rfl
        refine .inr ⟨0, e, by simp, hx.symm, by simp, fun j f hj hfk => ?_⟩
        cases j with
        | zero => rfl
        | succ j =>
          simp only [List.getElem?_cons_succ] at hj
          exact absurd hfk (off_all hk h.tail ha f (List.mem_of_getElem? hj))
      · cases hf
    · rename_i he
      have hne : e.key ≠ x := fun hx => by
        have := (keyEq_sound he hk h0.1).2 hx.symm
        cases this
      simp only [Option.map_eq_some_iff] at hf
      obtain ⟨es2, hf, rfl⟩ := hf
      rcases put_sound hk h.tail hf with ⟨h1, h2⟩ | ⟨i, f, h1, h2, h3, h4⟩
      · refine .inl ⟨fun g hg => ?_, by rw [h2]; rfl⟩
        rcases List.mem_cons.1 hg with rfl | hg
        · exact hne
        · exact h1 g hg
      · refine .inr ⟨i + 1, f, by simpa using h1, h2, by rw [h3]; rfl, fun j g hj hg => ?_⟩
        cases j with
        | zero =>
          simp only [List.getElem?_cons_zero, Option.some.injEq] at hj
          subst hj; exact absurd hg hne
        | succ j => rw [h4 j g (by simpa using hj) hg]

/-- the keys that the evaluator takes are keys to Go's maps -/
def KeysOk (P : Program) (C : Cfg) : Prop := ∀ t k, C.keyed t k = true → Keyed P t ∧ ∀ c H w x, RV c H w k x → ∃ l, keyOf P t x = some l

section
variable {C : Cfg} (hT : ∀ t i, C.T t = some i → TIok P t i) (hK : KeysOk P C) {fid : FuncId} {o : Oper} {a : Act} {ρ : Operand → Option V} (hρ : ∀ x v, ρ x = some v → RV c H w v (a.eval x)) (h : RH c H w) {d : Dsc} (hd : evDsc C fid o ρ = some d)
include hT hK hρ h hd

theorem ok_lookup {t : TypeId} {x y : Operand} {ok : Bool} (ho : o.op = .lookup t x y ok) : OpOk P (execOp a.eval o) c H w d := by
  simp only [evDsc, ho] at hd
  split at hd
  · rename_i kt el hti
    simp only [Option.bind_eq_some_iff] at hd
    obtain ⟨i, h1, k, h2, h3⟩ := hd
    obtain ⟨dd, g1, _, g3⟩ := (hT _ _ hti).und
    have := td_map g3
    subst this
    split at h3
    · rename_i id e1
      cases h3
      have hy := hρ y k h2
      have hx := hρ x _ e1
      simp only [RV] at hx
      refine ok_read h fun ob v hob hf => ?_
      split at hf
      · rename_i es
        split at hf
        · rename_i hc
          simp only [Option.bind_eq_some_iff] at hf
          obtain ⟨r, h4, h5⟩ := hf
          split at h5
          · rename_i z hz
            cases h5
            have hro := h.ob _ _ hob
            simp only [RO] at hro
            obtain ⟨_, _, _, ents, clock, f1, f2, f3⟩ := hro
            have hE : Ents c H w es ents.toList := ⟨by simpa using f2, fun i p e hp he => f3 i p e hp (by rw [← Array.getElem?_toList]; exact he)⟩
            obtain ⟨hKd, hkl⟩ := hK _ _ hc.2.1
            obtain ⟨l, hl⟩ := hkl c H w _ hy
            have hall : ∀ e ∈ ents.toList, ∃ l, keyOf P kt e.key = some l := fun e he => by
              obtain ⟨j, hj⟩ := List.getElem?_of_mem he
              have hlt : j < es.length := by rw [hE.1]; exact (List.getElem?_eq_some_iff.1 hj).1
              have hp := List.getElem?_eq_getElem hlt
              exact (hK _ _ (List.all_eq_true.1 hc.2.2 _ (List.getElem_mem hlt))).2 c H w _ (hE.2 j _ e hp hj).1
            have hget : (getObj (c.ρ id)).run P w = .ok (.map ents clock) w := by simp [getObj, Sem.run, f1]
            obtain ⟨ti, z', q1, q2, q3, q4, q5, q6, q7⟩ := (hT _ _ h1).info
            have hzv : RV c H w z z' := by
              have hzr : RVs c H w i.zero z'.cells.toList := mapM_rvs (fun _ _ => ofVal0_rv) q5
              rw [hz, q7 hc.1] at hzr
              simp only [RVs] at hzr
              obtain ⟨u, us, e2, e3, _⟩ := hzr
              simp at e2
              rw [e2.1]; exact e3
            have hzr : (zeroValue el).run P w = .ok z' w := by simp [zeroValue, typeInfo, q1, q4]
            rcases hKd.find w hl ents.toList hall with ⟨r1, r2⟩ | ⟨j, e, r1, r2, r3⟩
            · rcases find_sound hy hE h4 with ⟨rfl, _⟩ | ⟨i0, v0, e0, _, s2, s3, _⟩
              · refine ⟨if ok then .tuple #[z', .bool false] else z', ?_, ?_⟩
                · simp [execOp, ho, hx.2, Instr.lookup, run_underlying g1, hget, hKd.check w _ hl, r1, hzr]
                · cases ok
                  · simpa using hzv
                  · simp only [if_true, RV, Option.getD_none, Option.isSome_none]
                    exact ⟨_, rfl, by simp only [RVs, RV]; exact ⟨z', _, rfl, hzv, _, _, rfl, rfl, rfl⟩⟩
              · exact absurd s3 (r2 e0 (List.mem_of_getElem? s2))
            · rcases find_sound hy hE h4 with ⟨_, s1⟩ | ⟨i0, v0, e0, rfl, s2, s3, s4, s5⟩
              · exact absurd r3 (s1 e (List.mem_of_getElem? r2))
              · have := s5 j e r2 r3
                subst this
                rw [s2] at r2
                cases r2
                refine ⟨if ok then .tuple #[e.val, .bool true] else e.val, ?_, ?_⟩
                · simp [execOp, ho, hx.2, Instr.lookup, run_underlying g1, hget, hKd.check w _ hl, r1]
                · cases ok
                  · simpa using s4
                  · simp only [if_true, RV, Option.getD_some, Option.isSome_some]
                    exact ⟨_, rfl, by simp only [RVs, RV]; exact ⟨e.val, _, rfl, s4, _, _, rfl, rfl, rfl⟩⟩
          · cases h5
        · cases hf
      · cases hf
    · cases h3
  · cases hd

theorem ok_mapUpdate {t : TypeId} {x y z : Operand} (ho : o.op = .mapUpdate t x y z) : OpOk P (execOp a.eval o) c H w d := by
  simp only [evDsc, ho] at hd
  split at hd
  · rename_i kt el hti
    simp only [Option.bind_eq_some_iff] at hd
    obtain ⟨m, h1, k, h2, u, h3, h4⟩ := hd
    obtain ⟨dd, g1, _, g3⟩ := (hT _ _ hti).und
    have := td_map g3
    subst this
    split at h4
    · rename_i id
      cases h4
      have hy := hρ y k h2
      have hz := hρ z u h3
      have hx := hρ x _ h1
      simp only [RV] at hx
      intro v' pan H' he
      simp only [runN, Option.map_eq_some_iff, Option.bind_eq_some_iff, Prod.mk.injEq] at he
      obtain ⟨ob, ⟨ob0, g2, g4⟩, rfl, rfl, rfl⟩ := he
      split at g4
      · rename_i es
        split at g4
        · rename_i hc
          simp only [Option.map_eq_some_iff] at g4
          obtain ⟨es', g5, rfl⟩ := g4
          have hro := h.ob _ _ g2
          simp only [RO] at hro
          obtain ⟨_, _, _, ents, clock, f1, f2, f3⟩ := hro
          have hE : Ents c H w es ents.toList := ⟨by simpa using f2, fun i p e hp he => f3 i p e hp (by rw [← Array.getElem?_toList]; exact he)⟩
          obtain ⟨hKd, hkl⟩ := hK _ _ hc.1
          obtain ⟨l, hl⟩ := hkl c H w _ hy
          have hall : ∀ e ∈ ents.toList, ∃ l, keyOf P kt e.key = some l := fun e he => by
            obtain ⟨j, hj⟩ := List.getElem?_of_mem he
            have hlt : j < es.length := by rw [hE.1]; exact (List.getElem?_eq_some_iff.1 hj).1
            have hp := List.getElem?_eq_getElem hlt
            exact (hK _ _ (List.all_eq_true.1 hc.2 _ (List.getElem_mem hlt))).2 c H w _ (hE.2 j _ e hp hj).1
          have hget : (getObj (c.ρ id)).run P w = .ok (.map ents clock) w := by simp [getObj, Sem.run, f1]
          have hlt : c.ρ id < w.heap.size := (Array.getElem?_eq_some_iff.1 f1).1
          have hset : ∀ ob, (setObj (c.ρ id) ob).run P w = .ok () { w with heap := w.heap.setIfInBounds (c.ρ id) ob } := fun ob => by simp [Go.setObj, Sem.run, f1]
          have hoth : ∀ (ob : Obj) b, b ≠ c.ρ id → ({ w with heap := w.heap.setIfInBounds (c.ρ id) ob } : World).heap[b]? = w.heap[b]? := fun ob b hb => by simp [Array.getElem?_setIfInBounds_ne (Ne.symm hb)]
          have hthis : ∀ (ob : Obj), ({ w with heap := w.heap.setIfInBounds (c.ρ id) ob } : World).heap[c.ρ id]? = some ob := fun ob => by simp [hlt]
          rcases hKd.find w hl ents.toList hall with ⟨r1, r2⟩ | ⟨j, e, r1, r2, r3⟩
          · rcases put_sound hy hE g5 with ⟨_, rfl⟩ | ⟨i0, e0, s2, s3, _⟩
            · have hrun : (execOp a.eval o).run P w = .ok .skip { w with heap := w.heap.setIfInBounds (c.ρ id) (.map (ents.push { key := a.eval y, val := a.eval z, born := clock }) (clock + 1)) } := by
                simp [execOp, ho, hx.2, Instr.mapUpdate, run_underlying g1, hget, hKd.check w _ hl, r1, hset]
              obtain ⟨e1, e2⟩ := step_map h g2 (w' := { w with heap := w.heap.setIfInBounds (c.ρ id) (.map (ents.push { key := a.eval y, val := a.eval z, born := clock }) (clock + 1)) }) (by simp) (hoth _) (hthis _) (es' := es ++ [(k, u)]) (by simp [f2]) (fun i p e hp he => by
                rw [Array.getElem?_push] at he
                split at he
                · rename_i hi
                  cases he
                  rw [← f2] at hi
                  subst hi
                  simp at hp
                  subst hp
                  exact ⟨hy, hz⟩
                · rename_i hi
                  have hi2 : i < es.length := by
                    have := (Array.getElem?_eq_some_iff.1 he).1
                    omega
                  rw [List.getElem?_append_left hi2] at hp
                  exact f3 i p e hp he)
              exact ⟨c, _, undef, by simp [Out, hrun], e1, e2, by simp only [RV]⟩
            · exact absurd s3 (r2 e0 (List.mem_of_getElem? s2))
          · rcases put_sound hy hE g5 with ⟨s1, _⟩ | ⟨i0, e0, s2, s3, rfl, s5⟩
            · exact absurd r3 (s1 e (List.mem_of_getElem? r2))
            · have := s5 j e r2 r3
              subst this
              rw [s2] at r2
              cases r2
              have hej : ents[j]? = some e := by rw [← Array.getElem?_toList]; exact s2
              have hkey : (((ents[j]?).map (·.key)).getD (a.eval y)) = a.eval y := by rw [hej]; exact s3
              have hrun : (execOp a.eval o).run P w = .ok .skip { w with heap := w.heap.setIfInBounds (c.ρ id) (.map (ents.modify j fun e => { e with key := a.eval y, val := a.eval z }) clock) } := by
                simp [execOp, ho, hx.2, Instr.mapUpdate, run_underlying g1, hget, hKd.check w _ hl, r1, hkey, hKd.stays w hl, hset]
              obtain ⟨e1, e2⟩ := step_map h g2 (w' := { w with heap := w.heap.setIfInBounds (c.ρ id) (.map (ents.modify j fun e => { e with key := a.eval y, val := a.eval z }) clock) }) (by simp) (hoth _) (hthis _) (es' := es.set j (k, u)) (by simp [f2]) (fun i p e hp he => by
                rw [Array.getElem?_modify] at he
                split at he
                · rename_i hi
                  subst hi
                  rw [hej] at he
                  simp at he
                  subst he
                  have hjl : j < es.length := by rw [f2]; exact (Array.getElem?_eq_some_iff.1 hej).1
                  simp [hjl] at hp
                  subst hp
                  exact ⟨hy, hz⟩
                · rename_i hi
                  rw [List.getElem?_set_ne hi] at hp
                  exact f3 i p e hp he)
              exact ⟨c, _, undef, by simp [Out, hrun], e1, e2, by simp only [RV]⟩
        · cases g4
      · cases g4
    · cases h4
  · cases hd
end
end Go.Av
namespace Go.Av
variable {c : Ctx} {H : Heap} {w : World} {P : Program}

/-- the cells of a slice are read -/
theorem firstCells_run {size n cap : Nat} {b : Option Addr} {vs : List Value} (hl : vs.length = n * size) (hn : b = none → vs = []) (hb : ∀ y, b = some y → (0 < n → y.spot = none) ∧ w.rangeAt y.block y.off vs) :
    (Builtin.firstCells size n (.slice b n cap)).run P w = .ok vs.toArray w := by
  cases b with
  | none =>
    rw [hn rfl]
    simp [Builtin.firstCells]
  | some y =>
    obtain ⟨h1, h2⟩ := hb y rfl
    refine run_firstCells_some (P := P) w size n y n cap vs hl fun j v hv => ?_
    have h0 : 0 < n := by
      rcases Nat.eq_zero_or_pos n with h0 | h0
      · rw [h0, Nat.zero_mul] at hl
        have := (List.getElem?_eq_some_iff.1 hv).1
        omega
      · exact h0
    rw [spot_none (h1 h0), add_mid]
    exact h2 j v hv

theorem append_grow_run {t ty e : TypeId} {i : TypeInfo} {z : Value} (ht : P.underlying t = some (.slice e)) (hi : P.info? e = some i) (hz : i.zero = some z)
    {sb xb : Option Addr} {len cap n xc : Nat} {olds news : List Value} (hlo : olds.length = len * i.size) (hso : sb = none → olds = []) (hbo : ∀ y, sb = some y → (0 < len → y.spot = none) ∧ w.rangeAt y.block y.off olds)
    (hln : news.length = n * i.size) (hsn : xb = none → news = []) (hbn : ∀ y, xb = some y → (0 < n → y.spot = none) ∧ w.rangeAt y.block y.off news)
    (hg : cap < len + n) (h63 : len + n ≤ roomy) (hby : (len + n) * i.bytes ≤ roomy) :
    ∃ N, len + n ≤ N ∧ (Builtin.append_ #[t, t] ty #[.slice sb len cap, .slice xb n xc]).run P w =
      .ok (.slice (some ⟨w.heap.size, 0, none⟩) (len + n) N) (w.drew.alloc (.cells (olds.toArray ++ news.toArray ++ Builtin.zeroCells z.cells (N - (len + n))) e)) := by
  refine ⟨grownCap w (len + n) cap e, grownCap_ge w (len + n) cap e, ?_⟩
  have hn : ¬ (len + n ≤ cap) := by omega
  have h63' : ¬ (9223372036854775807 < ((len : Int) + (n : Int))) := by simp only [roomy] at h63; omega
  have h48 := growslice_fits hg hby
  have h48' : ¬ (281474976710656 < Builtin.nextslicecap (len + n) cap * i.bytes) := by omega
  have hf := firstCells_run (P := P) (w := w.drew) (cap := xc) hln hsn (fun y hy => ⟨(hbn y hy).1, fun j v hv => by simpa using (hbn y hy).2 j v hv⟩)
  have hfo := firstCells_run (P := P) (w := w.drew) (cap := cap) hlo hso (fun y hy => ⟨(hbo y hy).1, fun j v hv => by simpa using (hbo y hy).2 j v hv⟩)
  simp [Builtin.append_, run_underlying ht, sizeOf, typeInfo, zeroValue, hi, hz, Builtin.lenOf, hn, h63', h48', Question.forced, hf, hfo, newRow, grownCap]
  congr 2
  apply Array.ext'
  simp [List.append_assoc]

theorem append_none_run {t ty e : TypeId} {i : TypeInfo} (ht : P.underlying t = some (.slice e)) (hi : P.info? e = some i) {sb xb : Option Addr} {len cap xc : Nat} (hc : len ≤ cap) :
    (Builtin.append_ #[t, t] ty #[.slice sb len cap, .slice xb 0 xc]).run P w = .ok (.slice sb len cap) w := by
  have hf : (Builtin.firstCells i.size 0 (.slice xb 0 xc)).run P w = .ok #[] w := by
    cases xb <;> simp [Builtin.firstCells, loadCells, loadCellsFrom]
  cases sb <;> simp [Builtin.append_, run_underlying ht, sizeOf, typeInfo, hi, Builtin.lenOf, hc, hf, storeCells]

theorem append_room_run {t ty e et : TypeId} {i : TypeInfo} (ht : P.underlying t = some (.slice e)) (hi : P.info? e = some i)
    {g len cap n xc : Nat} {xb : Option Addr} {cur : Array Value} {fr : Nat × Nat} (hf0 : Thawed cur fr) (hg : w.heap[g]? = some (.cells cur et fr)) {news : List Value} (hln : news.length = n * i.size) (hsn : xb = none → news = []) (hbn : ∀ y, xb = some y → (0 < n → y.spot = none) ∧ w.rangeAt y.block y.off news)
    (h1 : ∀ u ∈ news, u.oneCell' = true) (hroom : len + n ≤ cap) (hfit : len * i.size + news.length ≤ cur.size) :
    (Builtin.append_ #[t, t] ty #[.slice (some ⟨g, 0, none⟩) len cap, .slice xb n xc]).run P w =
      .ok (.slice (some ⟨g, 0, none⟩) (len + n) cap) (w.setRow g (cur.toList.take (len * i.size) ++ news ++ cur.toList.drop (len * i.size + news.length)).toArray) := by
  have hf := firstCells_run (P := P) (w := w) (cap := xc) hln hsn hbn
  have hst := run_storeCells_free P g (len * i.size) et fr news 0 cur w hg hf0 (by simpa using hfit) h1
  simp only [Nat.add_zero] at hst
  simp [Builtin.append_, run_underlying ht, sizeOf, typeInfo, hi, Builtin.lenOf, hroom, hf, add_mid, hst]

/-- all cells are of one cell each -/
theorem ones_rv {xs : List V} {vs : List Value} (h : RVs c H w xs vs) (ha : xs.all V.one = true) : ∀ u ∈ vs, u.oneCell' = true := fun u hu => by
  obtain ⟨i, hi⟩ := List.getElem?_of_mem hu
  have hl : i < xs.length := by rw [RVs_length h]; exact (List.getElem?_eq_some_iff.1 hi).1
  obtain ⟨y, hy, hr⟩ := RVs_get h (List.getElem?_eq_getElem hl)
  rw [hi] at hy; cases hy
  exact (one_rv (List.all_eq_true.1 ha _ (List.getElem_mem hl)) hr).1

/-- what an append into a new block leaves -/
theorem grown_size {olds news : List Value} {z : Array Value} {len n N size : Nat} (h1 : olds.length = len * size) (h2 : news.length = n * size) (h3 : z.size = size) (h4 : len + n ≤ N) :
    (olds.toArray ++ news.toArray ++ Builtin.zeroCells z (N - (len + n))).size = N * size := by
  rw [Array.size_append, Array.size_append, size_zeroCells, h3, List.size_toArray, List.size_toArray, h1, h2, ← Nat.add_mul, ← Nat.add_mul]
  congr 1; omega

theorem grown_take {olds news : List Value} {z : Array Value} {m : Nat} : (olds.toArray ++ news.toArray ++ Builtin.zeroCells z m).toList.take (olds ++ news).length = olds ++ news := by
  rw [Array.toList_append, Array.toList_append]
  exact List.take_left

theorem cellsStr_some : ∀ {cs : List V} {l : List UInt8}, cellsStr cs = some l → ∃ ns : List Int, cs = ns.map (V.int .u8) ∧ l = ns.map fun n => UInt8.ofNat n.toNat
  | [], l, h => by simp only [cellsStr, Option.some.injEq] at h; exact ⟨[], rfl, h.symm⟩
  | x :: cs, l, h => by
    unfold cellsStr at h
    split at h
    · rename_i e; cases e
    · rename_i n cs2 e
      cases e
      simp only [Option.map_eq_some_iff] at h
      obtain ⟨r, h1, rfl⟩ := h
      obtain ⟨ns, rfl, rfl⟩ := cellsStr_some h1
      exact ⟨n :: ns, rfl, rfl⟩
    · cases h

theorem bytes_cells {ns : List Int} : ∀ {vs : List Value}, RVs c H w (ns.map (V.int .u8)) vs → vs = ns.map (Value.int .u8) := by
  induction ns with
  | nil => intro vs h; simpa [RVs] using h
  | cons n ns ih =>
    intro vs h
    simp only [List.map_cons, RVs, RV] at h
    obtain ⟨_, ys, rfl, rfl, h2⟩ := h
    rw [ih h2]; rfl

theorem cells_bytes : ∀ (l : List UInt8), RVs c H w (l.map fun b => V.int .u8 b.toNat) (l.map fun b => Value.int .u8 b.toNat)
  | [] => by simp only [List.map_nil, RVs]
  | b :: l => by
    simp only [List.map_cons, RVs, RV]
    exact ⟨_, _, rfl, rfl, cells_bytes l⟩

theorem fold_push : ∀ (ns : List Int) (s : ByteArray), ns.foldl (fun r n => r.push (UInt8.ofNat n.toNat)) s = ⟨s.data ++ (ns.map fun n => UInt8.ofNat n.toNat).toArray⟩
  | [], s => by simp
  | n :: ns, s => by
    rw [List.foldl_cons, fold_push ns]
    apply ByteArray.ext
    simp

section
variable {C : Cfg} (hT : ∀ t i, C.T t = some i → TIok P t i) {fid : FuncId} {o : Oper} {a : Act} {ρ : Operand → Option V} (hρ : ∀ x v, ρ x = some v → RV c H w v (a.eval x)) (h : RH c H w) {d : Dsc}
include hT hρ h

theorem ok_append {k : Call} (ho : o.op = .call k) (hb : k.callee = .builtin .append) (hd : evDsc C fid o ρ = some d) : OpOk P (execOp a.eval o) c H w d := by
  simp only [evDsc, ho, hb, Option.bind_eq_some_iff] at hd
  obtain ⟨args, h1, h2⟩ := hd
  have hr := mapM_ops hρ h1
  split at h2 <;> first | (cases h2; done) | contradiction | skip
  rename_i s x _
  split at h2
  · rename_i t t' hat
    split at h2
    · rename_i htt
      subst htt
      obtain ⟨sv, xv, e1, rs, rx⟩ := args_two hr
      have hat' : k.argTypes = #[t, t] := by apply Array.ext'; simpa using hat
      have key : ∀ (y : Value) (w' : World), (Builtin.append_ #[t, t] o.type #[sv, xv]).run P w = .ok y w' → (execOp a.eval o).run P w = .ok (.value y) w' := fun y w' e2 => by
        simp [execOp, ho, resolve, hb, e1, hat', invoke, builtin, e2]
      unfold appendD at h2
      split at h2
      · rename_i e hti
        split at h2
        · rename_i i hei
          obtain ⟨dd, g1, _, g3⟩ := (hT _ _ hti).und
          have := td_slice g3
          subst this
          obtain ⟨ti, z, f1, f2, f3, f4, f5, f6⟩ := zero_rvs (hT _ _ hei)
          split at h2
          · cases h2
          rename_i hsz0
          have hpos : 0 < i.size := by omega
          split at h2
          · -- a slice that has no room
            rename_i len cs
            simp only [RV] at rs
            obtain ⟨sb, cap, rfl, s2, s3, s4, s5⟩ := rs
            have hcap := s3 trivial
            subst hcap
            have hsrows : ∃ olds, RVs c H w cs olds ∧ (sb = none → olds = []) ∧ ∀ y, sb = some y → (0 < cap → y.spot = none) ∧ w.rangeAt y.block y.off olds := by
              cases sb with
              | none =>
                obtain ⟨_, rfl⟩ := s4 rfl
                exact ⟨[], by simp only [RVs], fun _ => rfl, fun y hy => by cases hy⟩
              | some y =>
                obtain ⟨vs, q1, q2⟩ := rvat_rows (s5 y rfl).2
                exact ⟨vs, q1, (fun hx => by cases hx), fun z hz => by cases hz; exact ⟨(s5 y rfl).1, q2⟩⟩
            obtain ⟨olds, o1, o2, o3⟩ := hsrows
            have hcl := RVs_length o1
            -- into a new block
            have grow : ∀ (n xc : Nat) (xb : Option Addr) (new : List V) (news : List Value), xv = .slice xb n xc → RVs c H w new news → (xb = none → news = []) → (∀ y, xb = some y → (0 < n → y.spot = none) ∧ w.rangeAt y.block y.off news) →
                0 < n → (cap + n) * i.bytes ≤ roomy → cap + n ≤ roomy → cs.length = cap * i.size → new.length = n * i.size →
                OpOk P (execOp a.eval o) c H w (.new (.arr i.size (C.st fid (o.dst.getD 0)) 0 (cs ++ new)) fun id => .own id 0 (cap + n) (cap + n)) := by
              intro n xc xb new news hx hnew hn0 hn1 hn hby hln hcs hns
              subst hx
              have hnl := RVs_length hnew
              obtain ⟨N, hN, hrun⟩ := append_grow_run (P := P) (w := w) (ty := o.type) g1 f1 f4 (sb := sb) (xb := xb) (len := cap) (cap := cap) (n := n) (xc := xc) (olds := olds) (news := news)
                (by rw [← hcl, hcs, f2]) o2 o3 (by rw [← hnl, hns, f2]) hn0 hn1 (by omega) hln (by rw [f3]; exact hby)
              have hsize := grown_size (olds := olds) (news := news) (z := z.cells) (len := cap) (n := n) (N := N) (size := i.size) (by rw [← hcl, hcs]) (by rw [← hnl, hns]) f5 hN
              have hlen : (cs ++ new).length = (cap + n) * i.size := by rw [List.length_append, hcs, hns, Nat.add_mul]
              refine ok_new (w' := w.drew.alloc (.cells (olds.toArray ++ news.toArray ++ Builtin.zeroCells z.cells (N - (cap + n))) e)) h rfl (.inr (.inl ⟨i.size, _, _, _, e, rfl, rfl, hpos, by rw [hlen, hsize]; exact Nat.mul_le_mul_right _ hN, ?_⟩)) (key _ _ hrun) (fun c' h1 _ => rv_new_arr h1 hlen hN (heap_alloc_new w.drew _) hsize)
              have : (cs ++ new).length = (olds ++ news).length := by simp [hcl, hnl]
              rw [this, grown_take]
              exact RVs_append o1 hnew
            split at h2
            · rename_i n _ new
              simp only [RV] at rx
              have rx' := rx
              obtain ⟨xb, xc, rfl, t2, t3, t4, t5⟩ := rx
              split at h2
              · rename_i hn0
                cases h2
                subst hn0
                exact ok_val h (key _ _ (append_none_run g1 f1 (Nat.le_refl _))) (by simp only [RV]; exact ⟨sb, cap, rfl, s2, s3, s4, s5⟩)
              · rename_i hn0
                split at h2
                · rename_i hc
                  cases h2
                  have hxr : ∃ news, RVs c H w new news ∧ (xb = none → news = []) ∧ ∀ y, xb = some y → (0 < n → y.spot = none) ∧ w.rangeAt y.block y.off news := by
                    cases xb with
                    | none =>
                      obtain ⟨_, rfl⟩ := t4 rfl
                      exact ⟨[], by simp only [RVs], fun _ => rfl, fun y hy => by cases hy⟩
                    | some y =>
                      obtain ⟨vs, q1, q2⟩ := rvat_rows (t5 y rfl).2
                      exact ⟨vs, q1, (fun hx => by cases hx), fun z hz => by cases hz; exact ⟨(t5 y rfl).1, q2⟩⟩
                  obtain ⟨news, n1, n2, n3⟩ := hxr
                  exact grow n xc xb new news rfl n1 n2 n3 (by omega) hc.1 hc.2.1 hc.2.2.1 hc.2.2.2
                · cases h2
            · rename_i u off n fin
              split at h2
              · rename_i hc
                cases h2
                intro v' pan H' he
                simp only [runN, Option.map_eq_some_iff, Option.bind_eq_some_iff, Prod.mk.injEq] at he
                obtain ⟨ob, ⟨ob0, p1, ⟨kk, new⟩, p2, p3⟩, rfl, rfl, rfl⟩ := he
                split at p3
                · rename_i hk
                  cases p3
                  simp only at hk
                  subst hk
                  simp only [RV] at rx
                  obtain ⟨xb, xo, xc, news, q1, q2, q3, q4, q5⟩ := own_rows h rx p1 p2
                  exact grow n xc (some ⟨xb, xo, none⟩) new news q1 q4 (fun hx => by cases hx) (fun y hy => by cases hy; exact ⟨fun _ => rfl, q5⟩) hc.2.2.1 hc.1 hc.2.1 hc.2.2.2 q3 _ _ _ rfl
                · cases p3
              · cases h2
            · cases h2
          · -- a slice of an array of one's own
            rename_i t0 off len fin
            simp only [RV] at rs
            have push : ∀ (n xc : Nat) (xb : Option Addr) (new : List V) (news : List Value) (kk : Nat) (st : Bool) (me : Nat) (cs : List V), xv = .slice xb n xc → RVs c H w new news → (xb = none → news = []) → (∀ y, xb = some y → (0 < n → y.spot = none) ∧ w.rangeAt y.block y.off news) →
                (fin + n) * i.bytes ≤ roomy → fin + n ≤ roomy → off + len = fin → off = 0 → new.length = n * i.size → new.all V.one = true →
                H[t0]? = some (.arr kk st me cs) → kk = i.size → fin * kk = cs.length → me ≤ fin →
                ∃ c' w' x, Out P (execOp a.eval o) w false x w' ∧ Evo c c' H (H.set t0 (.arr kk st me (cs ++ new))) w w' ∧ RH c' (H.set t0 (.arr kk st me (cs ++ new))) w' ∧ RV c' (H.set t0 (.arr kk st me (cs ++ new))) w' (.own t0 off (len + n) (fin + n)) x := by
              intro n xc xb new news kk st me cs hx hnew hn0 hn1 hby hln hoff hoff0 hns hones hob hk hfin hme
              subst hx
              have hnl := RVs_length hnew
              have htl : t0 < H.length := (List.getElem?_eq_some_iff.1 hob).1
              obtain ⟨_, k2, st2, me2, cs2, q1, q2, q3⟩ := rs
              rw [hob] at q1; cases q1
              obtain ⟨b, oo, cap, rfl, q5, q6, q7, q8⟩ := q3 hme
              have hcur := q7.2 hfin
              have hroom := q8 hfin
              subst hoff0
              rw [Nat.zero_mul] at hcur
              obtain ⟨r1, r2, r3, hkp, ar, et, ⟨fr, hfr, r4⟩, r5, r6⟩ := RO.arr h hob
              rw [room_at r4, Nat.zero_add] at hroom
              have hlf : len = fin := by omega
              subst hlf
              have hcl := RVs_length r6
              rw [hcur.1, hcur.2] at key
              have hlen : (cs ++ new).length = (len + n) * kk := by rw [List.length_append, ← hfin, hns, hk, Nat.add_mul]
              have holds : (ar.toList.take cs.length).length = len * kk := by rw [← hcl, hfin]
              by_cases hfit : len + n ≤ cap
              · have hfit2 : len * ti.size + news.length ≤ ar.size := by
                  rw [f2, ← hnl, hns, ← hroom, ← hk, ← Nat.add_mul]; exact Nat.mul_le_mul_right _ hfit
                have hrun := append_room_run (P := P) (w := w) (ty := o.type) g1 f1 (xc := xc) (n := n) hfr r4 (by rw [← hnl, hns, f2]) hn0 hn1 (ones_rv hnew hones) hfit hfit2
                have hm : len * ti.size = cs.length := by rw [f2, ← hk, hfin]
                rw [hm] at hrun hfit2
                have hsz2 : (ar.toList.take cs.length ++ news ++ ar.toList.drop (cs.length + news.length)).toArray.size = room w (c.ρ t0) := by
                  rw [room_at r4]; simp; omega
                obtain ⟨c', e2, e3, e4⟩ := step_push h hob (new := new) (w' := w.setRow (c.ρ t0) (ar.toList.take cs.length ++ news ++ ar.toList.drop (cs.length + news.length)).toArray) (by simp) (fun b hb => setRow_other w _ b _ hb)
                  (hfr.of_size (by rw [hsz2, room_at r4])) (setRow_heap w _ ar _ et _ r4) hsz2 (by rw [hsz2, room_at r4, List.length_append, hnl]; exact hfit2)
                  (fun q hq => by
                    rw [cell_at (setRow_heap w _ ar _ et _ r4), cell_at r4, List.getElem?_toArray, List.append_assoc, List.getElem?_append_left (by simp; omega), List.getElem?_take, if_pos hq, Array.getElem?_toList])
                  (by
                    have : (ar.toList.take cs.length ++ news ++ ar.toList.drop (cs.length + news.length)).take (cs ++ new).length = ar.toList.take cs.length ++ news := by
                      have hl2 : (cs ++ new).length = (ar.toList.take cs.length ++ news).length := by
                        rw [List.length_append, List.length_append, ← hcl, hnl]
                      rw [hl2, List.take_left']
                      rfl
                    rw [List.toList_toArray, this]
                    exact RVs_append r6 hnew)
                refine ⟨c', w.setRow (c.ρ t0) (ar.toList.take cs.length ++ news ++ ar.toList.drop (cs.length + news.length)).toArray, .slice (some ⟨c.ρ t0, 0, none⟩) (len + n) cap, .inl (key _ _ hrun), e3, e4, ?_⟩
                simp only [RV, ROwn]
                refine ⟨⟨_, _, rfl, hfit⟩, kk, st, me, cs ++ new, by simp [htl], by rw [hlen]; exact Nat.le_refl _, fun _ => ⟨c.ρ t0, 0, cap, rfl, hfit, by omega, ?_, fun _ => ?_⟩⟩
                · rw [Nat.zero_mul]
                  have : c'.ρ t0 = c.ρ t0 := by rw [e2]
                  exact ⟨.inl ⟨this.symm, rfl⟩, fun _ => ⟨this.symm, rfl⟩⟩
                · have : c'.ρ t0 = c.ρ t0 := by rw [e2]
                  rw [this, room_at (setRow_heap w _ ar _ et _ r4), hsz2, room_at r4, Nat.zero_add]; exact hroom
              · obtain ⟨N, hN, hrun⟩ := append_grow_run (P := P) (w := w) (ty := o.type) g1 f1 f4 (sb := some ⟨c.ρ t0, 0, none⟩) (xb := xb) (len := len) (cap := cap) (n := n) (xc := xc) (olds := ar.toList.take cs.length) (news := news)
                  (by rw [holds, hk, f2]) (fun hx => by cases hx) (fun y hy => by
                    cases hy
                    refine ⟨fun _ => rfl, fun j v hv => ?_⟩
                    rw [List.getElem?_take] at hv
                    split at hv
                    · rw [cell_at r4, Nat.zero_add, ← Array.getElem?_toList]; exact hv
                    · cases hv) (by rw [← hnl, hns, f2]) hn0 hn1 (by omega) hln (by rw [f3]; exact hby)
                have hsize := grown_size (olds := ar.toList.take cs.length) (news := news) (z := z.cells) (len := len) (n := n) (N := N) (size := i.size) (by rw [holds, hk]) (by rw [← hnl, hns]) f5 hN
                have hnpos : 0 < n := by
                  rcases Nat.eq_zero_or_pos n with hz | hz
                  · subst hz; omega
                  · exact hz
                obtain ⟨c', e2, e3, e4⟩ := step_grow h hob (new := new) (by rw [hns]; exact Nat.mul_pos hnpos hpos) (w' := w.drew.alloc (.cells ((ar.toList.take cs.length).toArray ++ news.toArray ++ Builtin.zeroCells z.cells (N - (len + n))) e)) rfl
                  (by rw [hsize, hlen, hk]; exact Nat.mul_le_mul_right _ hN)
                  (fun q hq => by
                    rw [cell_at r4, ← Array.getElem?_toList, Array.toList_append, Array.toList_append, List.append_assoc, List.toList_toArray, List.getElem?_append_left (by rw [← hcl]; exact hq), List.getElem?_take, if_pos hq, Array.getElem?_toList])
                  (by
                    have : (cs ++ new).length = (ar.toList.take cs.length ++ news).length := by rw [List.length_append, List.length_append, ← hcl, hnl]
                    rw [this, grown_take]
                    exact RVs_append r6 hnew)
                refine ⟨c', w.drew.alloc (.cells ((ar.toList.take cs.length).toArray ++ news.toArray ++ Builtin.zeroCells z.cells (N - (len + n))) e), .slice (some ⟨w.heap.size, 0, none⟩) (len + n) N, .inl (key _ _ hrun), e3, e4, ?_⟩
                simp only [RV, ROwn]
                refine ⟨⟨_, _, rfl, hN⟩, kk, st, me, cs ++ new, by simp [htl], by rw [hlen]; exact Nat.le_refl _, fun _ => ⟨w.heap.size, 0, N, rfl, hN, by omega, ?_, fun _ => ?_⟩⟩
                · rw [Nat.zero_mul]
                  exact ⟨.inl ⟨e2.symm, rfl⟩, fun _ => ⟨e2.symm, rfl⟩⟩
                · have := room_at (heap_alloc_new w.drew (.cells ((ar.toList.take cs.length).toArray ++ news.toArray ++ Builtin.zeroCells z.cells (N - (len + n))) e))
                  rw [World.size_drew] at this
                  rw [e2, this, hsize, Nat.zero_add, hk]
            split at h2
            · rename_i n _ new
              simp only [RV] at rx
              obtain ⟨xb, xc, rfl, t2, t3, t4, t5⟩ := rx
              split at h2
              · rename_i hc
                cases h2
                intro v' pan H' he
                simp only [runN, Option.map_eq_some_iff, Option.bind_eq_some_iff, Prod.mk.injEq] at he
                obtain ⟨ob, ⟨ob0, p1, p2⟩, rfl, rfl, rfl⟩ := he
                split at p2
                · rename_i kk st me cs
                  split at p2
                  · rename_i hm
                    cases p2
                    have hxr : ∃ news, RVs c H w new news ∧ (xb = none → news = []) ∧ ∀ y, xb = some y → (0 < n → y.spot = none) ∧ w.rangeAt y.block y.off news := by
                      cases xb with
                      | none =>
                        obtain ⟨_, rfl⟩ := t4 rfl
                        exact ⟨[], by simp only [RVs], fun _ => rfl, fun y hy => by cases hy⟩
                      | some y =>
                        obtain ⟨vs, q1, q2⟩ := rvat_rows (t5 y rfl).2
                        exact ⟨vs, q1, (fun hx => by cases hx), fun z hz => by cases hz; exact ⟨(t5 y rfl).1, q2⟩⟩
                    obtain ⟨news, n1, n2, n3⟩ := hxr
                    exact push n xc xb new news kk st me cs rfl n1 n2 n3 hc.1 hc.2.1 hc.2.2.1 hc.2.2.2.1 hc.2.2.2.2.1 hc.2.2.2.2.2 p1 hm.1 hm.2.1 hm.2.2
                  · cases p2
                · cases p2
              · cases h2
            · rename_i u off' n fin'
              split at h2
              · rename_i hc
                cases h2
                intro v' pan H' he
                simp only [runN, Option.map_eq_some_iff, Option.bind_eq_some_iff, Prod.mk.injEq] at he
                obtain ⟨ob0, p1, ob1, p2, ob, p3, rfl, rfl, rfl⟩ := he
                split at p3
                · rename_i kk st me cs
                  simp only [Option.bind_eq_some_iff] at p3
                  obtain ⟨⟨k3, new⟩, p4, p5⟩ := p3
                  split at p5
                  · rename_i hm
                    cases p5
                    simp only [RV] at rx
                    obtain ⟨xb, xo, xc, news, q1, q2, q3, q4, q5⟩ := own_rows h rx p2 p4
                    exact push n xc (some ⟨xb, xo, none⟩) new news kk st me cs q1 q4 (fun hx => by cases hx) (fun y hy => by cases hy; exact ⟨fun _ => rfl, q5⟩) hc.1 hc.2.1 hc.2.2.1 hc.2.2.2.1 (by rw [q3]; exact congrArg _ hm.2.1) hm.2.2.2.2 p1 hm.1 hm.2.2.1 hm.2.2.2.1
                  · cases p5
                · cases p3
              · cases h2
            · cases h2
          · cases h2
        · cases h2
      · cases h2
    · cases h2
  · cases h2

theorem ok_convert {t u : TypeId} {x : Operand} (ho : o.op = .convert t u x) (hd : evDsc C fid o ρ = some d) : OpOk P (execOp a.eval o) c H w d := by
  simp only [evDsc, ho, Option.bind_eq_some_iff] at hd
  obtain ⟨j, h0, i, h1, h2⟩ := hd
  obtain ⟨dd, g1, _, g3⟩ := (hT _ _ h1).und
  obtain ⟨d0, f1, _, f3⟩ := (hT _ _ h0).und
  split at h2
  · rename_i k kk n he e1
    have hx := hρ x _ e1
    simp only [RV] at hx
    rw [he] at g3
    have := td_int g3
    subst this
    cases h2
    exact ok_val h (x := .int k (k.wrap n)) (by simp [execOp, ho, hx, convert, run_underlying g1, run_underlying f1, Conv.intToInt]) (by simp only [RV])
  · rename_i e b he e1
    have hx := hρ x _ e1
    simp only [RV] at hx
    rw [he] at g3
    have := td_slice g3
    subst this
    split at h2
    · rename_i hte
      cases h2
      obtain ⟨de, q1, _, q3⟩ := (hT _ _ hte).und
      have := td_int q3
      subst this
      have hrun := Lib.run_convert_string_bytes w t u e b f1 g1 q1
      have hge := grownCap_ge w b.size 0 e
      have hbs : (Lib.bytesCells w e b).size = grownCap w b.size 0 e := by
        have : b.data.size = b.size := rfl
        simp only [Lib.bytesCells, Array.size_append, Array.size_map, Array.size_replicate]
        omega
      have hlen : (strCells b).length = b.size := by simp [strCells]
      intro v' pan H' hr
      simp only [runN, Option.some.injEq, Prod.mk.injEq] at hr
      obtain ⟨rfl, rfl, rfl⟩ := hr
      have htk : (Lib.bytesCells w e b).toList.take (strCells b).length = b.data.toList.map fun b => Value.int .u8 b.toNat := by
        rw [hlen]
        have : b.size = (b.data.toList.map fun b => Value.int .u8 b.toNat).length := by simp
        rw [this]
        simp only [Lib.bytesCells, Array.toList_append, Array.toList_map]
        exact List.take_left
      obtain ⟨c', k1, k2, k3⟩ := step_new h (w' := w.drew.alloc (.cells (Lib.bytesCells w e b) e)) (o := .cells (Lib.bytesCells w e b) e (0, 0)) rfl (.arr 1 false 0 (strCells b)) (.inr (.inl ⟨1, false, strCells b, Lib.bytesCells w e b, e, rfl, rfl, Nat.one_pos, by rw [hlen, hbs]; exact hge, by rw [htk]; exact cells_bytes _⟩))
      have hob : (H ++ [Ob.arr 1 false 0 (strCells b)])[H.length]? = some (.arr 1 false 0 (strCells b)) := by simp
      have hnew : (w.drew.alloc (.cells (Lib.bytesCells w e b) e)).heap[w.heap.size]? = some (.cells (Lib.bytesCells w e b) e (0, 0)) := heap_alloc_new w.drew _
      have hsz : (w.drew.alloc (.cells (Lib.bytesCells w e b) e)).heap.size = w.heap.size + 1 := by
        show (w.drew.heap.push _).size = _
        rw [Array.size_push]; rfl
      have hold : ∀ q : Nat, q ≠ w.heap.size → (Lib.bytesWorld w e b).heap[q]? = (w.drew.alloc (.cells (Lib.bytesCells w e b) e)).heap[q]? := fun q hq => by
        rcases Nat.lt_or_ge q w.heap.size with hl | hl
        · rw [Lib.bytesWorld_at_old w e b q hl]
          exact (heap_alloc_old w.drew _ q hl).symm
        · rw [Array.getElem?_eq_none (by rw [Lib.bytesWorld_size]; omega), Array.getElem?_eq_none (by rw [hsz]; omega)]
      have hroom : (Lib.bytesCells w e b).size = room (w.drew.alloc (.cells (Lib.bytesCells w e b) e)) (c'.ρ H.length) := by rw [k1, room_at hnew]
      obtain ⟨c2, m1, m2, m3⟩ := step_push k3 hob (new := []) (w' := Lib.bytesWorld w e b) (by rw [Lib.bytesWorld_size, hsz]) (fun q hq => hold q (by rw [← k1]; exact hq)) (fr' := ((Lib.bytesCells w e b).size, (Lib.bytesCells w e b).size + 1)) (a' := Lib.bytesCells w e b) (.inr (Nat.le_refl _))
        (by rw [k1]; exact Lib.bytesWorld_at_new w e b) hroom (by rw [List.append_nil, hlen, hbs]; exact hge) (fun q hq => by
          rw [k1, cell_at (Lib.bytesWorld_at_new w e b), cell_at hnew])
        (by rw [List.append_nil, htk]; exact cells_bytes _)
      have hset : (H ++ [Ob.arr 1 false 0 (strCells b)]).set H.length (.arr 1 false 0 (strCells b ++ [])) = H ++ [Ob.arr 1 false 0 (strCells b)] := by simp
      rw [hset] at m2 m3
      refine ⟨c2, Lib.bytesWorld w e b, .slice (some ⟨w.heap.size, 0, none⟩) b.size (grownCap w b.size 0 e), .inl (by simp [execOp, ho, hx, hrun]), k2.trans m2, m3, ?_⟩
      exact rv_new_arr (by rw [m1, k1]) (by rw [hlen, Nat.mul_one]) hge (Lib.bytesWorld_at_new w e b) (by rw [hbs, Nat.mul_one])
    · cases h2
  · rename_i t0 off len fin he e1
    have hx := hρ x _ e1
    simp only [RV] at hx
    split at h2
    · rename_i e hje
      split at h2
      · rename_i hte
        cases h2
        obtain ⟨de, q1, _, q3⟩ := (hT _ _ hte).und
        have := td_int q3
        subst this
        rw [he] at g3
        have := td_str g3
        subst this
        rw [hje] at f3
        have := td_slice f3
        subst this
        refine ok_read h fun ob v hob hf => ?_
        simp only [Option.bind_eq_some_iff] at hf
        obtain ⟨⟨k, cs⟩, p1, p2⟩ := hf
        split at p2
        · rename_i hc
          simp only [Option.map_eq_some_iff] at p2
          obtain ⟨l, p3, rfl⟩ := p2
          obtain ⟨b, q, cap, vs, r1, r2, r3, r4, r5⟩ := own_rows h hx hob p1
          obtain ⟨ns, n1, rfl⟩ := cellsStr_some p3
          simp only at n1 hc r4
          rw [n1] at r4
          have hvs := bytes_cells r4
          subst hvs
          have hl : len = (ns.map (Value.int .u8)).length := by have := hc.2; rw [n1] at this; simpa using this.symm
          have hload : (loadCells ⟨b, q, none⟩ len).run P w = .ok (ns.map (Value.int .u8)).toArray w := by
            rw [hl]
            exact run_loadCells_list (P := P) w ⟨b, q, none⟩ (ns.map (Value.int .u8)) fun j v hv => by rw [add_mid]; exact r5 j v hv
          refine ⟨.string ⟨(ns.map fun n => UInt8.ofNat n.toNat).toArray⟩, ?_, by simp only [RV]⟩
          have h1 := run_convert_bytes_string (P := P) w t u e (some ⟨b, q, none⟩) len cap f1 q1 g1
          rw [run_bytesToString w ⟨b, q, none⟩ len cap ns hload, fold_push] at h1
          have : (ByteArray.empty.data ++ (ns.map fun n => UInt8.ofNat n.toNat).toArray) = (ns.map fun n => UInt8.ofNat n.toNat).toArray := by
            apply Array.ext'
            simp
          rw [this] at h1
          simp [execOp, ho, r1, h1]
        · cases p2
      · cases h2
    · cases h2
  · cases h2
end
end Go.Av
namespace Go.Av

mutual
/-- a value that names objects below n alone -/
def V.under (n : Nat) : V → Prop
  | .sl _ _ cs => V.unders n cs
  | .own t _ _ _ => t < n
  | .fp cs => V.unders n cs
  | .bp t _ => t < n
  | .ap t _ _ => t < n
  | .mp t => t < n
  | .fn _ cs => V.unders n cs
  | .ifc _ x => V.under n x
  | .agg cs => V.unders n cs
  | .tup cs => V.unders n cs
  | _ => True
def V.unders (n : Nat) : List V → Prop
  | [] => True
  | x :: xs => V.under n x ∧ V.unders n xs
end

section
variable {c c' : Ctx} {H H' : Heap} {w : World}
theorem lt_of_get {t : Nat} {o : Ob} (h : H[t]? = some o) : t < H.length := (List.getElem?_eq_some_iff.1 h).1

mutual
theorem under_rv : ∀ (x : V) (v : Value), RV c H w x v → x.under H.length
  | .sl len full cs, v, h => by
    simp only [RV] at h
    obtain ⟨a, cap, _, _, _, h4, h5⟩ := h
    simp only [V.under]
    cases a with
    | none => rw [(h4 rfl).2]; simp only [V.unders]
    | some y => exact under_rvat _ _ _ (h5 y rfl).2
  | .own t off len fin, v, h => by
    simp only [RV, ROwn] at h
    obtain ⟨_, k, st, me, cs, h1, _⟩ := h
    exact lt_of_get h1
  | .fp cs, v, h => by
    simp only [RV] at h
    obtain ⟨b, o, _, h2⟩ := h
    exact under_rvat _ _ _ h2
  | .bp t off, v, h => by
    simp only [RV] at h
    obtain ⟨⟨cs, h1⟩, _⟩ := h
    exact lt_of_get h1
  | .ap t off fin, v, h => by
    simp only [RV, RAp] at h
    obtain ⟨_, k, st, me, cs, h1, _⟩ := h
    exact lt_of_get h1
  | .mp t, v, h => by
    simp only [RV] at h
    obtain ⟨⟨cs, h1⟩, _⟩ := h
    exact lt_of_get h1
  | .fn f cs, v, h => by
    simp only [RV] at h
    obtain ⟨cv, _, h2⟩ := h
    exact under_rvs _ _ h2
  | .ifc t x, v, h => by
    simp only [RV] at h
    obtain ⟨y, _, h2⟩ := h
    exact under_rv x y h2
  | .agg cs, v, h => by
    simp only [RV] at h
    obtain ⟨cv, _, h2⟩ := h
    exact under_rvs _ _ h2
  | .tup cs, v, h => by
    simp only [RV] at h
    obtain ⟨cv, _, h2⟩ := h
    exact under_rvs _ _ h2
  | .junk, _, _ | .int _ _, _, _ | .bool _, _, _ | .str _, _, _ | .nilp, _, _ | .nilm, _, _ | .nilf, _, _ | .nili, _, _ => by simp only [V.under]
theorem under_rvs : ∀ (xs : List V) (vs : List Value), RVs c H w xs vs → V.unders H.length xs
  | [], _, _ => by simp only [V.unders]
  | x :: xs, vs, h => by
    simp only [RVs] at h
    obtain ⟨y, ys, _, h1, h2⟩ := h
    exact ⟨under_rv x y h1, under_rvs xs ys h2⟩
theorem under_rvat (b : Nat) : ∀ (o : Nat) (xs : List V), RVat c H w b o xs → V.unders H.length xs
  | _, [], _ => by simp only [V.unders]
  | o, x :: xs, h => by
    simp only [RVat] at h
    obtain ⟨_, ⟨y, _, h2⟩, h3⟩ := h
    exact ⟨under_rv x y h2, under_rvat b (o + 1) xs h3⟩
end

mutual
theorem flat_under (n : Nat) : ∀ (x : V), x.flat = true → x.under n
  | .sl _ _ cs, h => by simp only [V.flat] at h; simp only [V.under]; exact flats_under n cs h
  | .agg cs, h => by simp only [V.flat] at h; simp only [V.under]; exact flats_under n cs h
  | .tup cs, h => by simp only [V.flat] at h; simp only [V.under]; exact flats_under n cs h
  | .fn _ cs, h => by simp only [V.flat] at h; simp only [V.under]; exact flats_under n cs h
  | .ifc _ v, h => by simp only [V.flat] at h; simp only [V.under]; exact flat_under n v h
  | .own _ _ _ _, h | .bp _ _, h | .ap _ _ _, h | .mp _, h | .fp _, h | .junk, h => by simp [V.flat] at h
  | .int _ _, _ | .bool _, _ | .str _, _ | .nilp, _ | .nilm, _ | .nilf, _ | .nili, _ => by simp only [V.under]
theorem flats_under (n : Nat) : ∀ (xs : List V), V.flats xs = true → V.unders n xs
  | [], _ => by simp only [V.unders]
  | x :: xs, h => by
    simp only [V.flats, Bool.and_eq_true] at h
    simp only [V.unders]
    exact ⟨flat_under n x h.1, flats_under n xs h.2⟩
end

/-- fewer objects, more cells that nothing changes -/
structure Cut (c c' : Ctx) (H H' : Heap) (n : Nat) : Prop where
  heap : ∀ t, t < n → H'[t]? = H[t]?
  frz : ∀ b o, c.frz b o → c'.frz b o
  ρ : ∀ t, t < n → c'.ρ t = c.ρ t

variable {n : Nat}
theorem Cut.pos (h : Cut c c' H H' n) {t p f m b o : Nat} (ht : t < n) (hp : Pos c w t p f m b o) : Pos c' w t p f m b o := by
  unfold Pos Link at *
  rw [h.ρ t ht]
  exact ⟨hp.1.imp id fun hx i hi => ⟨h.frz _ _ (hx i hi).1, (hx i hi).2⟩, hp.2⟩

theorem Cut.own (h : Cut c c' H H' n) {t off len fin : Nat} {v : Value} (ht : t < n) (hv : ROwn c H w t off len fin v) : ROwn c' H' w t off len fin v := by
  obtain ⟨h0, k, st, me, cs, h1, h2, h3⟩ := hv
  refine ⟨h0, k, st, me, cs, by rw [h.heap t ht]; exact h1, h2, fun hm => ?_⟩
  obtain ⟨b, o, cap, h4, h5, h6, h7, h8⟩ := h3 hm
  exact ⟨b, o, cap, h4, h5, h6, h.pos ht h7, fun he => by rw [h.ρ t ht]; exact h8 he⟩

theorem Cut.ap (h : Cut c c' H H' n) {t off fin : Nat} {v : Value} (ht : t < n) (hv : RAp c H w t off fin v) : RAp c' H' w t off fin v := by
  obtain ⟨h0, k, st, me, cs, h1, h2, h3⟩ := hv
  refine ⟨h0, k, st, me, cs, by rw [h.heap t ht]; exact h1, h2, fun hm => ?_⟩
  obtain ⟨b, o, h4, h7⟩ := h3 hm
  exact ⟨b, o, h4, h.pos ht h7⟩

mutual
theorem Cut.rv (h : Cut c c' H H' n) : ∀ (x : V) (v : Value), x.under n → RV c H w x v → RV c' H' w x v
  | .junk, v, _, hv => by simpa only [RV] using hv
  | .int _ _, v, _, hv => by simpa only [RV] using hv
  | .bool _, v, _, hv => by simpa only [RV] using hv
  | .str _, v, _, hv => by simpa only [RV] using hv
  | .sl len full cs, v, hb, hv => by
    simp only [RV] at hv ⊢
    simp only [V.under] at hb
    obtain ⟨a, cap, h1, h2, h3, h4, h5⟩ := hv
    exact ⟨a, cap, h1, h2, h3, h4, fun x hx => ⟨(h5 x hx).1, Cut.rvat h x.block x.off cs hb (h5 x hx).2⟩⟩
  | .own t off len fin, v, hb, hv => by
    simp only [RV] at hv ⊢
    simp only [V.under] at hb
    exact h.own hb hv
  | .fp cs, v, hb, hv => by
    simp only [RV] at hv ⊢
    simp only [V.under] at hb
    obtain ⟨b, o, h1, h2⟩ := hv
    exact ⟨b, o, h1, Cut.rvat h b o cs hb h2⟩
  | .bp t off, v, hb, hv => by
    simp only [RV] at hv ⊢
    simp only [V.under] at hb
    obtain ⟨⟨cs, h1⟩, h2⟩ := hv
    exact ⟨⟨cs, by rw [h.heap t hb]; exact h1⟩, by rw [h2, h.ρ t hb]⟩
  | .ap t off fin, v, hb, hv => by
    simp only [RV] at hv ⊢
    simp only [V.under] at hb
    exact h.ap hb hv
  | .nilp, v, _, hv => by simpa only [RV] using hv
  | .mp t, v, hb, hv => by
    simp only [RV] at hv ⊢
    simp only [V.under] at hb
    obtain ⟨⟨cs, h1⟩, h2⟩ := hv
    exact ⟨⟨cs, by rw [h.heap t hb]; exact h1⟩, by rw [h2, h.ρ t hb]⟩
  | .nilm, v, _, hv => by simpa only [RV] using hv
  | .fn f caps, v, hb, hv => by
    simp only [RV] at hv ⊢
    simp only [V.under] at hb
    obtain ⟨cv, h1, h2⟩ := hv
    exact ⟨cv, h1, Cut.rvs h caps _ hb h2⟩
  | .nilf, v, _, hv => by simpa only [RV] using hv
  | .ifc t x, v, hb, hv => by
    simp only [RV] at hv ⊢
    simp only [V.under] at hb
    obtain ⟨y, h1, h2⟩ := hv
    exact ⟨y, h1, Cut.rv h x y hb h2⟩
  | .nili, v, _, hv => by simpa only [RV] using hv
  | .agg cs, v, hb, hv => by
    simp only [RV] at hv ⊢
    simp only [V.under] at hb
    obtain ⟨a, h1, h2⟩ := hv
    exact ⟨a, h1, Cut.rvs h cs _ hb h2⟩
  | .tup cs, v, hb, hv => by
    simp only [RV] at hv ⊢
    simp only [V.under] at hb
    obtain ⟨a, h1, h2⟩ := hv
    exact ⟨a, h1, Cut.rvs h cs _ hb h2⟩
theorem Cut.rvs (h : Cut c c' H H' n) : ∀ (xs : List V) (vs : List Value), V.unders n xs → RVs c H w xs vs → RVs c' H' w xs vs
  | [], vs, _, hv => by simpa only [RVs] using hv
  | x :: xs, vs, hb, hv => by
    simp only [RVs] at hv ⊢
    simp only [V.unders] at hb
    obtain ⟨y, ys, h1, h2, h3⟩ := hv
    exact ⟨y, ys, h1, Cut.rv h x y hb.1 h2, Cut.rvs h xs ys hb.2 h3⟩
theorem Cut.rvat (h : Cut c c' H H' n) (b : Nat) : ∀ (o : Nat) (xs : List V), V.unders n xs → RVat c H w b o xs → RVat c' H' w b o xs
  | o, [], _, _ => by simp only [RVat]
  | o, x :: xs, hb, hv => by
    simp only [RVat] at hv ⊢
    simp only [V.unders] at hb
    obtain ⟨h1, ⟨y, h2, h3⟩, h4⟩ := hv
    exact ⟨h.frz _ _ h1, ⟨y, h2, Cut.rv h x y hb.1 h3⟩, Cut.rvat h b (o + 1) xs hb.2 h4⟩
end

/-- values are stripped: every array becomes a slice of its cells; 'good' says of which arrays the cells stay -/
theorem strip_rv {c' : Ctx} {H' : Heap} {n0 : Nat} {all : Bool} (h : RH c H w) (hcut : Cut c c' H H' (if all then 0 else n0))
    (hgood : ∀ t k st me cs, H[t]? = some (.arr k st me cs) → (all = true → st = false) → (all = false → n0 ≤ t) → ∀ o, o < cs.length → c'.frz (c.ρ t) o) :
    ∀ (m : Nat) (x x' : V) (v : Value), strip H n0 all m x = some x' → RV c H w x v → RV c' H' w x' v
  | 0, x, x', v, hs, _ => by simp [strip] at hs
  | m + 1, x, x', v, hs, hv => by
    have hlist : ∀ (xs xs' : List V), xs.mapM (strip H n0 all m) = some xs' → (∀ vs, RVs c H w xs vs → RVs c' H' w xs' vs) ∧ ∀ b o, RVat c H w b o xs → (∀ i, i < xs.length → c'.frz b (o + i)) → RVat c' H' w b o xs' := by
      intro xs
      induction xs with
      | nil =>
        intro xs' hx
        simp at hx
        subst hx
        exact ⟨fun vs hvs => by simpa only [RVs] using hvs, fun b o _ _ => by simp only [RVat]⟩
      | cons y ys ih =>
        intro xs' hx
        simp only [List.mapM_cons, Option.bind_eq_bind, Option.pure_def, Option.bind_eq_some_iff, Option.some.injEq] at hx
        obtain ⟨y', h1, ys', h2, rfl⟩ := hx
        obtain ⟨i1, i2⟩ := ih ys' h2
        refine ⟨fun vs hvs => ?_, fun b o hvs hfr => ?_⟩
        · simp only [RVs] at hvs ⊢
          obtain ⟨u, us, rfl, h3, h4⟩ := hvs
          exact ⟨u, us, rfl, strip_rv h hcut hgood m y y' u h1 h3, i1 us h4⟩
        · simp only [RVat] at hvs ⊢
          obtain ⟨h3, ⟨u, h4, h5⟩, h6⟩ := hvs
          exact ⟨by simpa using hfr 0 (by simp), ⟨u, h4, strip_rv h hcut hgood m y y' u h1 h5⟩, i2 b (o + 1) h6 fun i hi => by
            have := hfr (i + 1) (by simp; omega)
            rwa [show o + (i + 1) = o + 1 + i by omega] at this⟩
    by_cases hf : x.flat = true
    · unfold strip at hs
      rw [if_pos hf] at hs
      cases hs
      exact hcut.rv x v (flat_under _ x hf) hv
    unfold strip at hs
    rw [if_neg hf] at hs
    clear hf
    cases x <;> simp only at hs <;> first | (cases hs; done) | skip
    case sl len full cs =>
      simp only [Option.map_eq_some_iff] at hs
      obtain ⟨cs', h1, rfl⟩ := hs
      simp only [RV] at hv ⊢
      obtain ⟨a, cap, g1, g2, g3, g4, g5⟩ := hv
      refine ⟨a, cap, g1, g2, g3, fun ha => ?_, fun y hy => ⟨(g5 y hy).1, (hlist cs cs' h1).2 _ _ (g5 y hy).2 fun i hi => hcut.frz _ _ ?_⟩⟩
      · obtain ⟨e1, e2⟩ := g4 ha
        subst e2
        simp at h1
        exact ⟨e1, h1⟩
      · exact (RVat_get (g5 y hy).2 (List.getElem?_eq_getElem hi)).1
    case own t off len fin =>
      split at hs
      · rename_i hc
        cases hs
        simp only [RV] at hv ⊢
        rw [if_neg (by simp [hc.2])] at hcut
        exact hcut.own hc.1 hv
      · rename_i hc
        split at hs
        · rename_i k st me cs hob
          split at hs
          · cases hs
          · rename_i hst
            split at hs
            · rename_i hr
              simp only [Option.map_eq_some_iff] at hs
              obtain ⟨cs', h1, rfl⟩ := hs
              simp only [RV] at hv ⊢
              obtain ⟨b, o, cap, vs, g1, g2, g3, g4, g5⟩ := own_rows h hv hob (by simp only [arrCells]; rw [if_pos hr])
              obtain ⟨_, k2, st2, me2, cs2, q1, q2, q3⟩ := hv
              rw [hob] at q1; cases q1
              obtain ⟨b2, o2, cap2, q4, q5, q6, q7, q8⟩ := q3 hr.2.2
              rw [q4] at g1
              simp only [Value.slice.injEq, Option.some.injEq, Addr.mk.injEq] at g1
              obtain ⟨⟨rfl, rfl, _⟩, _, rfl⟩ := g1
              have hkl : off * k + len * k ≤ fin * k := by rw [← Nat.add_mul]; exact Nat.mul_le_mul_right _ hr.1
              have hfr : ∀ i, i < len * k → c'.frz b2 (o2 + i) := fun i hi => by
                rcases q7.1 with ⟨rfl, rfl⟩ | hx
                · refine hgood t k st me cs hob (fun ha => ?_) (fun ha => ?_) _ (by omega)
                  · cases st with
                    | false => rfl
                    | true => exact absurd ⟨ha, rfl⟩ hst
                  · rcases Nat.lt_or_ge t n0 with hl | hl
                    · exact absurd ⟨hl, ha⟩ hc
                    · exact hl
                · exact hcut.frz _ _ (hx i (by omega)).1
              refine ⟨_, _, q4, g2, (fun hx => by cases hx), (fun hx => by cases hx), fun y hy => ?_⟩
              cases hy
              refine ⟨fun _ => rfl, ?_⟩
              have hlen2 : ((cs.drop (off * k)).take (len * k)).length = len * k := g3
              -- cell by cell
              refine RVat_of fun i x hx => ?_
              have hil : i < len * k := by
                have := (List.getElem?_eq_some_iff.1 hx).1
                have hm := (hlist _ cs' h1).1 vs g4
                rw [RVs_length hm, ← RVs_length g4, hlen2] at this
                exact this
              obtain ⟨u, hu, hru⟩ := RVs_get ((hlist _ cs' h1).1 vs g4) hx
              exact ⟨hfr i hil, u, g5 i u hu, hru⟩
            · cases hs
        · cases hs
    case bp t off =>
      split at hs
      · rename_i hc
        cases hs
        rw [if_neg (by simp [hc.2])] at hcut
        exact Cut.rv hcut _ _ (by simp only [V.under]; exact hc.1) hv
      · cases hs
    case ap t off fin =>
      split at hs
      · rename_i hc
        cases hs
        rw [if_neg (by simp [hc.2])] at hcut
        exact Cut.rv hcut _ _ (by simp only [V.under]; exact hc.1) hv
      · cases hs
    case mp t =>
      split at hs
      · rename_i hc
        cases hs
        rw [if_neg (by simp [hc.2])] at hcut
        exact Cut.rv hcut _ _ (by simp only [V.under]; exact hc.1) hv
      · cases hs
    case agg cs =>
      simp only [Option.map_eq_some_iff] at hs
      obtain ⟨cs', h1, rfl⟩ := hs
      simp only [RV] at hv ⊢
      obtain ⟨a, g1, g2⟩ := hv
      exact ⟨a, g1, (hlist cs cs' h1).1 _ g2⟩
    case tup cs =>
      simp only [Option.map_eq_some_iff] at hs
      obtain ⟨cs', h1, rfl⟩ := hs
      simp only [RV] at hv ⊢
      obtain ⟨a, g1, g2⟩ := hv
      exact ⟨a, g1, (hlist cs cs' h1).1 _ g2⟩
    case fn f cs =>
      simp only [Option.map_eq_some_iff] at hs
      obtain ⟨cs', h1, rfl⟩ := hs
      simp only [RV] at hv ⊢
      obtain ⟨a, g1, g2⟩ := hv
      exact ⟨a, g1, (hlist cs cs' h1).1 _ g2⟩
    case ifc t y =>
      simp only [Option.map_eq_some_iff] at hs
      obtain ⟨y', h1, rfl⟩ := hs
      simp only [RV] at hv ⊢
      obtain ⟨u, g1, g2⟩ := hv
      exact ⟨u, g1, strip_rv h hcut hgood m y y' u h1 g2⟩
    all_goals
      cases hs
      simpa only [RV] using hv
end
end Go.Av
