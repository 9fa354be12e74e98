/- Calls, regions, and what may be let go. Conditions: none beyond the hypotheses of each theorem. -/
import Derived.Test.YtdjgjnahfekdhaaGreatDoorA3
import Derived.RangeFuncCalls
import Derived.OrdersIn
import Derived.LoopNIn
import Derived.RangeFuncLeaves
set_option linter.unusedSectionVars false
set_option linter.unusedVariables false
set_option linter.unusedSimpArgs false
namespace Go.Av
variable {c : Ctx} {H : Heap} {w : World} {P : Program}

theorem strip_rvs {c' : Ctx} {H' : Heap} {n0 m : Nat} {all : Bool} (h : RH c H w) (hcut : Cut c c' H H' (if all then 0 else n0))
    (hgood : ∀ t k st me cs, H[t]? = some (.arr k st me cs) → (all = true → st = false) → (all = false → n0 ≤ t) → ∀ o, o < cs.length → c'.frz (c.ρ t) o) :
    ∀ {xs xs' : List V} {vs : List Value}, xs.mapM (strip H n0 all m) = some xs' → RVs c H w xs vs → RVs c' H' w xs' vs
  | [], xs', vs, hx, hv => by simp at hx; subst hx; simpa only [RVs] using hv
  | y :: ys, xs', vs, hx, hv => by
    simp only [List.mapM_cons, Option.bind_eq_bind, Option.pure_def, Option.bind_eq_some_iff, Option.some.injEq] at hx
    obtain ⟨y', h1, ys', h2, rfl⟩ := hx
    simp only [RVs] at hv ⊢
    obtain ⟨u, us, rfl, h3, h4⟩ := hv
    exact ⟨u, us, rfl, strip_rv h hcut hgood m y y' u h1 h3, strip_rvs h hcut hgood h2 h4⟩

/-- nothing that was there has changed -/
theorem step_away (h : RH c H w) {w' : World} (hold : ∀ b : Nat, b < w.heap.size → w'.heap[b]? = w.heap[b]?) (hs : w.heap.size ≤ w'.heap.size) (hio : Outs w w' := by exact ⟨rfl, rfl⟩) :
    let c2 : Ctx := { base := c.base, low := c.low, fz := fun b o => c.fz b o ∨ (w.heap.size ≤ b ∧ b < w'.heap.size), ρ := c.ρ }
    Evo c c2 H H w w' ∧ RH c2 H w' := by
  intro c2
  have hl : ∀ {b o}, c.frz b o → b < w.heap.size := fun hx => hx.elim (fun hx => Nat.lt_of_lt_of_le hx (Nat.le_trans h.base h.low)) fun hx => h.fz _ _ hx
  have hfr : ∀ {b o}, c.frz b o → c2.frz b o := fun hx => hx.imp id .inl
  have hpos : ∀ t o', H[t]? = some o' → o' ≠ .hole → ∀ p f n b o, Pos c w t p f n b o → Pos c2 w' t p f n b o := by
    intro t o' ht hn p f n b o hp
    have hh := hold _ ((h.ob t o' ht).low hn).2
    exact ⟨hp.1.imp id fun hx i hi => ⟨hfr (hx i hi).1, by rw [cell_congr (hold _ (hl (hx i hi).1)), cell_congr hh]; exact (hx i hi).2⟩, hp.2⟩
  have hev : Evo c c2 H H w w' := by
    refine ⟨rfl, rfl, fun b hb => hold b (Nat.lt_of_lt_of_le hb h.low), fun b o hx => .inl hx, fun b o hx => hx.imp id fun hx => Nat.le_trans h.low hx.1, fun b o hx => cell_congr (hold b (hl hx)) o, hs, Nat.le_refl _, fun t cs ht => ⟨⟨cs, ht⟩, rfl⟩, fun t cs ht => ⟨⟨cs, ht⟩, rfl⟩, ?_, ?_, fun b hb _ => hold b hb, fun t o ht hn => .inl ⟨o, ht, hn, rfl⟩, fun b o hb _ hx => hx.resolve_right fun hx => by omega, hio⟩
    · rintro t off len fin v ⟨h0, k, st, me, cs, h1, h2, h3⟩
      refine ⟨h0, k, st, me, cs, h1, h2, fun hm => ?_⟩
      obtain ⟨b, o, cap, h4, h5, h6, h7, h8⟩ := h3 hm
      exact ⟨b, o, cap, h4, h5, h6, hpos t _ h1 (by simp) _ _ _ _ _ h7, fun he => by rw [show c2.ρ t = c.ρ t from rfl, room_congr (hold _ ((h.ob t _ h1).low (by simp)).2)]; exact h8 he⟩
    · rintro t off fin v ⟨h0, k, st, me, cs, h1, h2, h3⟩
      refine ⟨h0, k, st, me, cs, h1, h2, fun hm => ?_⟩
      obtain ⟨b, o, h4, h7⟩ := h3 hm
      exact ⟨b, o, h4, hpos t _ h1 (by simp) _ _ _ _ _ h7⟩
  refine ⟨hev, h.base, Nat.le_trans h.low hs, fun b o hx => ?_, fun t o ht => ?_, h.inj⟩
  · rcases hx with hx | hx
    · exact Nat.lt_of_lt_of_le (h.fz b o hx) hs
    · exact hx.2
  · have hr := h.ob t o ht
    by_cases hn : o = .hole
    · subst hn; simp only [RO]
    have hlow := ((h.ob t o ht).low hn).2
    have hh := hold _ hlow
    have hfu : ∀ o, c2.fz (c.ρ t) o ↔ c.fz (c.ρ t) o := fun o => ⟨fun hx => hx.elim id fun hx => by omega, .inl⟩
    cases o with
    | hole => exact absurd rfl hn
    | box cs =>
      simp only [RO] at hr ⊢
      obtain ⟨h1, h2, h3, a, e, h4, h5⟩ := hr
      exact ⟨h1, Nat.lt_of_lt_of_le h2 hs, fun o hx => h3 o ((hfu o).1 hx), a, e, by rw [show c2.ρ t = c.ρ t from rfl, hh]; exact h4, hev.rvs _ _ h5⟩
    | arr k st me cs =>
      simp only [RO] at hr ⊢
      obtain ⟨h1, h2, h3, h6, a, e, h4, h7, h5⟩ := hr
      exact ⟨h1, Nat.lt_of_lt_of_le h2 hs, fun o => (hfu o).trans (h3 o), h6, a, e, by rw [show c2.ρ t = c.ρ t from rfl, hh]; exact h4, h7, hev.rvs _ _ h5⟩
    | map es =>
      simp only [RO] at hr ⊢
      obtain ⟨h1, h2, h3, a, e, h4, h7, h5⟩ := hr
      exact ⟨h1, Nat.lt_of_lt_of_le h2 hs, fun o hx => h3 o ((hfu o).1 hx), a, e, by rw [show c2.ρ t = c.ρ t from rfl, hh]; exact h4, h7, fun i p q hp hq => ⟨hev.rv _ _ (h5 i p q hp hq).1, hev.rv _ _ (h5 i p q hp hq).2⟩⟩

/-- the objects that a call made are let go -/
theorem step_drop {c1 : Ctx} {H1 : Heap} {w' : World} (h : RH c H w) (hev : Evo c c1 H H1 w w') (h1 : RH c1 H1 w') (hsame : ∀ t, t < H.length → H1[t]? = H[t]?) :
    let c2 : Ctx := { base := c1.base, low := c1.low, fz := fun b o => c1.fz b o ∨ ∃ t ob, H.length ≤ t ∧ H1[t]? = some ob ∧ ob ≠ .hole ∧ b = c1.ρ t, ρ := c1.ρ }
    Evo c c2 H H w w' ∧ RH c2 H w' ∧ ∀ m x x' v, strip H1 H.length false m x = some x' → RV c1 H1 w' x v → RV c2 H w' x' v := by
  intro c2
  have hcut : Cut c1 c2 H1 H H.length := ⟨fun t ht => (hsame t ht).symm, fun b o hx => hx.imp id .inl, fun t _ => rfl⟩
  have hlt : ∀ {t : Nat} {o : Ob}, H[t]? = some o → t < H.length := fun ht => lt_of_get ht
  refine ⟨?_, ?_, ?_⟩
  · refine ⟨hev.base, hev.low, hev.old, fun b o hx => .inl (hev.frz b o hx), fun b o hx => ?_, hev.cell, hev.size, Nat.le_refl _, fun t cs ht => ⟨⟨cs, ht⟩, (hev.box t cs ht).2⟩, fun t cs ht => ⟨⟨cs, ht⟩, (hev.map t cs ht).2⟩, fun t off len fin v hv => ?_, fun t off fin v hv => ?_, hev.rest, fun t o ht hn => hev.place t o (by rw [hsame t (hlt ht)]; exact ht) hn, fun b o hb hn hx => ?_, hev.io⟩
    · rcases hx with hx | ⟨t, ob, h2, h3, h4, h5⟩
      · exact hev.fresh b o hx
      · exact .inr (by rw [h5, ← hev.low]; exact ((h1.ob t ob h3).low h4).1)
    · have hx := hev.own t off len fin v hv
      obtain ⟨_, k, st, me, cs, g1, _⟩ := hv
      exact hcut.own (hlt g1) hx
    · have hx := hev.ap t off fin v hv
      obtain ⟨_, k, st, me, cs, g1, _⟩ := hv
      exact hcut.ap (hlt g1) hx
    · rcases hx with hx | ⟨t, ob, h2, h3, h4, h5⟩
      · exact hev.still b o hb hn hx
      · rcases hev.place t ob h3 h4 with ⟨o0, h6, _⟩ | h6
        · have := hlt h6; omega
        · omega
  · refine ⟨h1.base, h1.low, fun b o hx => ?_, fun t o ht => ?_, fun t u o o' ht hu hn hn' he => ?_⟩
    · rcases hx with hx | ⟨t, ob, h2, h3, h4, h5⟩
      · exact h1.fz b o hx
      · rw [h5]; exact ((h1.ob t ob h3).low h4).2
    · have htl := hlt ht
      have ht1 : H1[t]? = some o := by rw [hsame t htl]; exact ht
      have hr := h1.ob t o ht1
      have hr0 := h.ob t o ht
      by_cases hn : o = .hole
      · subst hn; simp only [RO]
      have hfu : ∀ q, c2.fz (c1.ρ t) q ↔ c1.fz (c1.ρ t) q := fun q => ⟨fun hx => hx.elim id fun ⟨u, ob, h2, h3, h4, h5⟩ => by
        have := h1.inj t u o ob ht1 h3 hn h4 h5
        omega, .inl⟩
      cases o with
      | hole => exact absurd rfl hn
      | box cs =>
        simp only [RO] at hr hr0 ⊢
        obtain ⟨g1, g2, g3, a, e, g4, g5⟩ := hr
        obtain ⟨_, _, _, a0, _, _, k5⟩ := hr0
        exact ⟨g1, g2, fun q hx => g3 q ((hfu q).1 hx), a, e, g4, hcut.rvs _ _ (under_rvs _ _ k5) g5⟩
      | arr k st me cs =>
        simp only [RO] at hr hr0 ⊢
        obtain ⟨g1, g2, g3, g6, a, e, g4, g7, g5⟩ := hr
        obtain ⟨_, _, _, _, a0, _, _, _, k5⟩ := hr0
        exact ⟨g1, g2, fun q => (hfu q).trans (g3 q), g6, a, e, g4, g7, hcut.rvs _ _ (under_rvs _ _ k5) g5⟩
      | map es =>
        simp only [RO] at hr hr0 ⊢
        obtain ⟨g1, g2, g3, a, e, g4, g7, g5⟩ := hr
        obtain ⟨_, _, _, a0, _, _, k7, k5⟩ := hr0
        refine ⟨g1, g2, fun q hx => g3 q ((hfu q).1 hx), a, e, g4, g7, fun i p q hp hq => ?_⟩
        have hi : i < a0.size := by rw [← k7]; exact (List.getElem?_eq_some_iff.1 hp).1
        have hk := k5 i p a0[i] hp (by simp [hi])
        exact ⟨hcut.rv _ _ (under_rv _ _ hk.1) (g5 i p q hp hq).1, hcut.rv _ _ (under_rv _ _ hk.2) (g5 i p q hp hq).2⟩
    · exact h1.inj t u o o' (by rw [hsame t (hlt ht)]; exact ht) (by rw [hsame u (hlt hu)]; exact hu) hn hn' he
  · intro m x x' v hs hv
    refine strip_rv h1 (by rw [if_neg (by simp)]; exact hcut) (fun t k st me cs ht _ hle o _ => ?_) m x x' v hs hv
    exact .inr (.inr ⟨t, _, hle rfl, ht, by simp, rfl⟩)

/-- what comes of a call -/
def Ret (c : Ctx) (H : Heap) (w : World) (v : V) (pan : Bool) (H' : Heap) : Ending → World → Prop := fun e w' =>
  False ∨ ∃ c' x, Evo c c' H H' w w' ∧ RH c' H' w' ∧ RV c' H' w' v x ∧ e = (if pan then .panicked [{ v := x, recovered := false }] else .returned x)

/-- what is known of an evaluator of calls -/
structure EntOk (P : Program) (ent : Ent) : Prop where
  isF : ∀ g args H r, ent g args H = some r → ∃ fn cd, P.funcs[g]? = some fn ∧ fn.body = some cd ∧ (fn.name == "runtime.NumGoroutine") = false
  ok : ∀ g args H r, ent g args H = some r →
  (H.length ≤ r.H.length ∧ ∀ t, t < H.length → t ∉ r.d → r.H[t]? = H[t]?) ∧
  ∀ c w (vs : Array Value), RH c H w → RVs c H w args vs.toList → Calls P g vs w (Ret c H w r.v r.pan r.H)

/-- the function that does something and says what was thrown -/
def GuardOk (P : Program) (C : Cfg) : Prop := ∀ ent, EntOk P ent → ∀ g caps H r, ent g caps H = some r → ∀ v, (if r.pan then (∃ n, v = .int .i64 n) ∧ r.v = .ifc C.fault (.agg [v]) else v = .int .i64 0) →
  ∀ c w (f : Value), RH c H w → RV c H w (.fn g caps) f → Calls P C.guard #[f] w (Ret c H w v false r.H)

theorem callF_ok {C : Cfg} (hG : GuardOk P C) {ent : Ent} (hE : EntOk P ent) {g : FuncId} {args : List V} {r : OR} (hr : callF C ent g args H = some r) (h : RH c H w) {vs : Array Value} (hv : RVs c H w args vs.toList) :
    Calls P g vs w (Ret c H w r.v r.pan r.H) := by
  unfold callF at hr
  have direct : ∀ q, ent g args H = some q → Calls P g vs w (Ret c H w q.v q.pan q.H) := fun q hq => (hE.ok g args H q hq).2 c w vs h hv
  split at hr
  · rename_i hg
    subst hg
    split at hr
    · rename_i f caps
      simp only [Option.bind_eq_some_iff] at hr
      obtain ⟨q, h1, h2⟩ := hr
      simp only [RVs] at hv
      obtain ⟨y, ys, h3, h4, rfl⟩ := hv
      have hvs : vs = #[y] := by apply Array.ext'; simpa using h3
      subst hvs
      have key := fun v hx => hG ent hE f caps H q h1 v hx c w y h h4
      split at h2
      · rename_i hp
        split at h2
        · rename_i t x hq
          split at h2
          · rename_i htf
            subst htf
            cases h2
            exact key _ (by rw [if_pos hp]; exact ⟨⟨_, rfl⟩, hq⟩)
          · cases h2
        · cases h2
      · rename_i hp
        cases h2
        exact key _ (by rw [if_neg hp])
    · cases hr
  · split at hr
    · simp only [Option.map_eq_some_iff] at hr
      obtain ⟨q, h1, rfl⟩ := hr
      exact direct q h1
    · split at hr
      · rename_i args' hst
        simp only [Option.bind_eq_some_iff] at hr
        obtain ⟨q, h1, h2⟩ := hr
        split at h2
        · rename_i v' hsv
          cases h2
          -- in an empty heap
          let cv : Ctx := { base := c.base, low := w.heap.size, fz := c.fz, ρ := c.ρ }
          have hview : RH cv [] w := ⟨Nat.le_trans h.base h.low, Nat.le_refl _, h.fz, fun t o ht => by simp at ht, fun t u o o' ht => by simp at ht⟩
          have hargs : RVs cv [] w args' vs.toList := strip_rvs (c' := cv) (H' := []) h (by
            rw [if_pos rfl]
            exact ⟨fun t ht => absurd ht (Nat.not_lt_zero _), fun b o hx => hx, fun t ht => absurd ht (Nat.not_lt_zero _)⟩) (fun t k st me cs ht hst _ o ho => by
              have := hst rfl
              subst this
              exact .inr (((RO.arr h ht).2.2.1 o).2 ⟨rfl, ho⟩)) hst hv
          refine ((hE.ok g args' [] q h1).2 cv w vs hview hargs).mono fun e w' he => ?_
          rcases he with he | ⟨c1, x, e1, e2, e3, e4⟩
          · exact .inl he
          · obtain ⟨f1, f2⟩ := step_away (hio := e1.io) h (w' := w') (fun b hb => e1.old b hb) e1.size
            refine .inr ⟨_, x, f1, f2, ?_, e4⟩
            have hs2 : RV { base := c.base, low := c.low, fz := fun b o => c.fz b o ∨ (w.heap.size ≤ b ∧ b < w'.heap.size), ρ := c.ρ } [] w' v' x :=
              strip_rv (c := c1) (H := q.H) e2 (by
                rw [if_neg (by simp)]
                refine ⟨fun t ht => absurd ht (Nat.not_lt_zero _), fun b o hx => ?_, fun t ht => absurd ht (Nat.not_lt_zero _)⟩
                rcases hx with hx | hx
                · exact .inl (by rw [e1.base] at hx; exact hx)
                · rcases e1.fresh b o hx with hy | hy
                  · exact .inr (.inl hy)
                  · exact .inr (.inr ⟨hy, e2.fz b o hx⟩)) (fun t k st me cs ht _ _ o ho => by
                    obtain ⟨r1, r2, _⟩ := RO.arr e2 ht
                    rw [e1.low] at r1
                    exact .inr (.inr ⟨r1, r2⟩)) sf q.v v' x hsv e3
            exact Cut.rv (n := 0) ⟨fun t ht => absurd ht (Nat.not_lt_zero _), fun b o hx => hx, fun t ht => absurd ht (Nat.not_lt_zero _)⟩ _ _ (under_rv _ _ hs2) hs2
        · simp only [Option.map_eq_some_iff] at h2
          obtain ⟨q2, h3, rfl⟩ := h2
          exact direct q2 h3
      · simp only [Option.bind_eq_some_iff] at hr
        obtain ⟨q, h1, h2⟩ := hr
        split at h2
        · rename_i hd
          split at h2
          · rename_i v' hsv
            cases h2
            have hab := (hE.ok g args H q h1).1
            refine (direct q h1).mono fun e w' he => ?_
            rcases he with he | ⟨c1, x, e1, e2, e3, e4⟩
            · exact .inl he
            · obtain ⟨f1, f2, f3⟩ := step_drop h e1 e2 (fun t ht => hab.2 t ht fun hm => by
                have : t ∈ q.d.filter (· < H.length) := List.mem_filter.2 ⟨hm, by simpa using ht⟩
                rw [hd] at this
                cases this)
              exact .inr ⟨_, x, f1, f2, f3 _ _ _ _ hsv e3, e4⟩
          · cases h2
            exact direct q h1
        · cases h2
          exact direct q h1
end Go.Av
namespace Go.Av
variable {c : Ctx} {H : Heap} {w : World} {P : Program}

section
variable {C : Cfg} (hT : ∀ t i, C.T t = some i → TIok P t i) (hK : KeysOk P C) {fid : FuncId} {o : Oper} {a : Act} {ρ : Operand → Option V} (hρ : ∀ x v, ρ x = some v → RV c H w v (a.eval x)) (h : RH c H w) {d : Dsc} (hd : evDsc C fid o ρ = some d)
include hT hK hρ h hd

theorem op_ok (hn : ∀ k f, o.op = .call k → k.callee ≠ .value f) : OpOk P (execOp a.eval o) c H w d := by
  cases ho : o.op with
  | move x => exact ok_move hρ h hd (.inl ho)
  | assign x => exact ok_move hρ h hd (.inr ho)
  | pick x y z => exact ok_pick hρ h hd ho
  | alloc t => exact ok_alloc hT hρ h hd ho
  | box t x => exact ok_box hT hρ h hd ho
  | build t ps => exact ok_build hT hρ h hd ho
  | buildSlice t l ps => exact ok_buildSlice hT hρ h hd ho
  | load t x => exact ok_load hT hρ h hd ho
  | store t x y => exact ok_store hT hρ h ho hd
  | nilCheck x => exact ok_nilCheck hρ h hd ho
  | binOp op t x y u => exact ok_binOp hT hρ h hd ho
  | unOp op t x => exact ok_unOp hρ h hd ho
  | convert t u x => exact ok_convert hT hρ h ho hd
  | makeInterface t x => exact ok_makeInterface hT hρ h hd ho
  | makeFunc f xs ys => exact ok_makeFunc hρ h hd ho
  | makeMap t r => exact ok_makeMap hT hρ h hd ho
  | makeSlice t x y => exact ok_makeSlice hT hρ h hd ho
  | slice t x l hi m => exact ok_slice hT hρ h hd ho
  | fieldAddr t x j => exact ok_fieldAddr hT hρ h hd ho
  | field t x j => exact ok_field hT hρ h hd ho
  | indexAddr t x y => exact ok_indexAddr hT hρ h hd ho
  | index t x y => exact ok_index hT hρ h hd ho
  | lookup t x y ok => exact ok_lookup hT hK hρ h hd ho
  | mapUpdate t x y z => exact ok_mapUpdate hT hK hρ h hd ho
  | extract x j => exact ok_extract hρ h hd ho
  | panic x => exact ok_panic hρ h hd ho
  | call k =>
    cases hb : k.callee with
    | value f => exact absurd hb (hn k f ho)
    | invoke r m => simp only [evDsc, ho, hb] at hd; cases hd
    | builtin b =>
      cases b with
      | len => exact ok_len hT hρ h ho hb hd
      | max => exact ok_max hT hρ h ho hb hd
      | append => exact ok_append hT hρ h ho hb hd
      | _ => simp [evDsc, ho, hb] at hd
  | _ => simp only [evDsc, ho] at hd; cases hd
end

def FOk (P : Program) (C : Cfg) : Prop := ∀ g fn, C.F g = some fn → P.funcs[g]? = some fn ∧ (fn.name == "runtime.NumGoroutine") = false

def PrimsOk (P : Program) (C : Cfg) : Prop := ∀ g p, C.prim g = some p →
  (∃ fn c, P.funcs[g]? = some fn ∧ fn.body = some c ∧ (fn.name == "runtime.NumGoroutine") = false) ∧
  ∀ args d, p args = some d → (∀ g' as, d ≠ .call g' as) ∧ ∀ c H w (vs : Array Value) v pan H', RH c H w → RVs c H w args vs.toList → runN H d = some (v, pan, H') → Calls P g vs w (Ret c H w v pan H')

structure Sound (P : Program) (C : Cfg) : Prop where
  T : ∀ t i, C.T t = some i → TIok P t i
  K : KeysOk P C
  F : FOk P C
  prims : PrimsOk P C
  guard : GuardOk P C
  mixed : P.follows .mixedOrders = true

theorem run_callFunc {g : FuncId} {fn : Func} {cd : Code} (hf : P.funcs[g]? = some fn) (hb : fn.body = some cd) (hn : (fn.name == "runtime.NumGoroutine") = false) (vs : Array Value) :
    (callFunc g vs).run P w = .ok (.enter g vs) w := by
  simp [callFunc, hf, hb]
  simp at hn
  simp [hn]

/-- the fence of a frame: of a function's, or of a round's of a range over a function -/
def fen : Option Nat → Fence
  | none => Fence.wide
  | some l => Fence.wide.inRound l
theorem fen_fn (ro : Option Nat) (f : FuncId) : (fen ro).fn f := by cases ro <;> exact trivial
theorem fen_depth (ro : Option Nat) : (fen ro).depth = none := by cases ro <;> rfl
theorem fen_n (ro : Option Nat) {n : Nat} (h : (fen ro).depth.isSome = true) : 1 ≤ n := by
  rw [fen_depth] at h
  cases h
theorem fen_calls (ro : Option Nat) {n : Nat} {f : FuncId} {args : Array Value} {R : Ending → World → Prop} (h : Calls P f args w R) : CallsIn (fen ro) n P f args w R := by
  cases ro with
  | none => exact callsIn_wide.2 h
  | some l => exact CallsIn.inRound l (callsIn_wide.2 h)
theorem evDsc_defer {C : Cfg} {fid : FuncId} {o : Oper} {ρ : Operand → Option V} {d : Dsc} (hd : evDsc C fid o ρ = some d) (c : Call) : o.op ≠ .defer c := by
  intro hc
  simp only [evDsc, hc] at hd
  cases hd

theorem runDsc_N {C : Cfg} {ent : Ent} {d : Dsc} (hn : ∀ g as, d ≠ .call g as) {r : OR} (hr : runDsc C ent H d = some r) : runN H d = some (r.v, r.pan, r.H) := by
  cases d with
  | call g as => exact absurd rfl (hn g as)
  | val v => simp only [runDsc, Option.some.injEq] at hr; subst hr; rfl
  | read t f => simp only [runDsc, Option.map_eq_some_iff] at hr; obtain ⟨v, h1, rfl⟩ := hr; simp [runN, h1]
  | new o v => simp only [runDsc, Option.some.injEq] at hr; subst hr; rfl
  | newFrom s f v => simp only [runDsc, Option.map_eq_some_iff] at hr; obtain ⟨v, h1, rfl⟩ := hr; simp [runN, h1]
  | upd t f v => simp only [runDsc, Option.map_eq_some_iff] at hr; obtain ⟨v, h1, rfl⟩ := hr; simp [runN, h1]
  | updFrom t s f v =>
    simp only [runDsc, Option.map_eq_some_iff, Option.bind_eq_some_iff] at hr
    obtain ⟨x, h1, y, h2, z, h3, rfl⟩ := hr
    simp [runN, h1, h2, h3]
  | pan v => simp only [runDsc, Option.some.injEq] at hr; subst hr; rfl

/-- an operation of a region -/
theorem dsc_step {C : Cfg} (S : Sound P C) {ent : Ent} (hE : EntOk P ent) {fid : FuncId} {o : Oper} {a : Act} {ρ : Operand → Option V} (hρ : ∀ x v, ρ x = some v → RV c H w v (a.eval x)) (h : RH c H w)
    {d : Dsc} (hd : evDsc C fid o ρ = some d) {draw : Bool} {id : Nat} {r : OR} (hr : runDsc C ent H (atPlace draw o id d) = some r) {K : Act → World → Prop} {Q : Exit → Act → World → Prop}
    (hK : ∀ c' w' x, Evo c c' H r.H w w' → RH c' r.H w' → RV c' r.H w' r.v x → r.pan = false → K (a.put o.dst x) w')
    (hQ : ∀ c' w' x, Evo c c' H r.H w w' → RH c' r.H w' → RV c' r.H w' r.v x → r.pan = true → Q (.panic [{ v := x, recovered := false }]) a w')
    (hout : Act → World → True) (ro : Option Nat) : o.wpIn (fen ro) 0 P a w K Q := by
  refine ⟨fun f _ => fen_fn ro f, ?_⟩
  rw [Oper.semAt_eq _ _ _ (evDsc_defer hd)]
  have ofCalls : ∀ g (vs : Array Value), (execOp a.eval o).run P w = .ok (.enter g vs) w → Calls P g vs w (Ret c H w r.v r.pan r.H) → o.uponIn (fen ro) 0 P a K Q ((execOp a.eval o).run P w) := by
    intro g vs he hc
    rw [he, Oper.uponIn_enter]
    refine ⟨fen_n ro, (fen_calls ro hc).mono fun e w' hret => ?_⟩
    rcases hret with hf | ⟨c', x, e1, e2, e3, rfl⟩
    · exact hf.elim
    · cases hp : r.pan with
      | true => exact hQ c' w' x e1 e2 e3 hp
      | false => exact hK c' w' x e1 e2 e3 hp
  have ofOut : ∀ c' w' x, Out P (execOp a.eval o) w r.pan x w' → Evo c c' H r.H w w' → RH c' r.H w' → RV c' r.H w' r.v x → o.uponIn (fen ro) 0 P a K Q ((execOp a.eval o).run P w) := by
    intro c' w' x ho e1 e2 e3
    unfold Out at ho
    cases hp : r.pan with
    | true =>
      rw [if_pos hp] at ho
      rw [ho, Oper.uponIn_panic]
      exact hQ c' w' x e1 e2 e3 hp
    | false =>
      rw [if_neg (by simp [hp])] at ho
      rcases ho with ho | ⟨ho, rfl⟩
      · rw [ho, Oper.uponIn_value]; exact hK c' w' x e1 e2 e3 hp
      · rw [ho, Oper.uponIn_skip]; exact hK c' w' undef e1 e2 e3 hp
  by_cases hcall : ∃ k f, o.op = .call k ∧ k.callee = .value f
  · obtain ⟨k, f, ho, hb⟩ := hcall
    have hpl : atPlace draw o id d = d := by
      unfold atPlace
      split
      · simp [isCall, ho, hb]
      · simp [isAlloc, ho]
      · rfl
    rw [hpl] at hr
    simp only [evDsc, ho, hb, Option.bind_eq_some_iff] at hd
    obtain ⟨fv, h1, h2⟩ := hd
    split at h2
    · rename_i g caps
      simp only [Option.bind_eq_some_iff] at h2
      obtain ⟨vs, h3, h4⟩ := h2
      have hf := hρ f _ h1
      simp only [RV] at hf
      obtain ⟨cv, hf1, hf2⟩ := hf
      have hargs : RVs c H w (vs ++ caps) ((k.args.map a.eval) ++ cv).toList := by
        rw [Array.toList_append, Array.toList_map]
        exact RVs_append (mapM_ops hρ h3) hf2
      have hrun : ∀ fn cd, P.funcs[g]? = some fn → fn.body = some cd → (fn.name == "runtime.NumGoroutine") = false → (execOp a.eval o).run P w = .ok (.enter g ((k.args.map a.eval) ++ cv)) w := by
        intro fn cd q1 q2 q3
        have hcf := run_callFunc (w := w) q1 q2 q3 ((k.args.map a.eval) ++ cv)
        simp [execOp, ho, resolve, hb, hf1, Deferred.ofValue, invoke, hcf]
      split at h4
      · rename_i p hp
        obtain ⟨⟨fn, cd, q1, q2, q3⟩, q4⟩ := S.prims g p hp
        obtain ⟨q5, q6⟩ := q4 _ _ h4
        exact ofCalls g _ (hrun fn cd q1 q2 q3) (q6 c H w _ r.v r.pan r.H h hargs (runDsc_N q5 hr))
      · split at h4
        · rename_i hbody
          cases h4
          obtain ⟨cd, hcd⟩ := Option.isSome_iff_exists.1 hbody
          simp only [Option.bind_eq_some_iff] at hcd
          obtain ⟨fn, q1, q2⟩ := hcd
          obtain ⟨q3, q4⟩ := S.F g fn q1
          exact ofCalls g _ (hrun fn cd q3 q2 q4) (callF_ok S.guard hE hr h hargs)
        · cases h4
    · cases h2
  · have hn : ∀ k f, o.op = .call k → k.callee ≠ .value f := fun k f ho hb => hcall ⟨k, f, ho, hb⟩
    have hok := op_ok S.T S.K hρ h hd hn
    have hnc : isCall o = false := by
      unfold isCall
      split
      · rename_i k ho
        split
        · rename_i f hb; exact absurd hb (hn k f ho)
        · rfl
      · rfl
    cases d with
    | call g as => simp [atPlace, hnc, runDsc] at hr
    | new b v =>
      by_cases hal : (draw && isAlloc o) = true
      · simp only [atPlace, if_pos hal, runDsc, Option.map_eq_some_iff, Option.bind_eq_some_iff] at hr
        obtain ⟨ob, ⟨ob0, q1, q2⟩, rfl⟩ := hr
        split at q2
        · cases q2
          have hia : isAlloc o = true := by
            simp at hal; exact hal.2
          unfold isAlloc at hia
          split at hia
          · rename_i t ho
            simp only [evDsc, ho, Option.map_eq_some_iff, Dsc.new.injEq] at hd
            obtain ⟨i, hi, rfl, rfl⟩ := hd
            obtain ⟨ti, z, g1, g2, g3, g4, g5, g6⟩ := zero_rvs (S.T _ _ hi)
            obtain ⟨c', e1, e2, e3⟩ := step_fill h q1 (w' := w.alloc (.cells z.cells t)) rfl (.box i.zero) (.inl ⟨_, z.cells, t, rfl, rfl, g6 c H w⟩)
            have hidl : id < H.length := (List.getElem?_eq_some_iff.1 q1).1
            refine ofOut c' (w.alloc (.cells z.cells t)) (.pointer (some ⟨w.heap.size, 0, none⟩)) (.inl ?_) e2 e3 ?_
            · simp [execOp, ho, Instr.alloc, zeroValue, typeInfo, g1, g4, newVar, newRow]
            · simp only [RV]
              exact ⟨⟨i.zero, by simp [hidl]⟩, by rw [e1]⟩
          · cases hia
        · cases q2
      · simp only [atPlace, if_neg hal] at hr
        obtain ⟨c', w', x, e1, e2, e3, e4⟩ := hok r.v r.pan r.H (runDsc_N (fun g as hx => by cases hx) hr)
        exact ofOut c' w' x e1 e2 e3 e4
    | _ =>
      simp only [atPlace] at hr
      obtain ⟨c', w', x, e1, e2, e3, e4⟩ := hok r.v r.pan r.H (runDsc_N (fun g as hx => by cases hx) hr)
      exact ofOut c' w' x e1 e2 e3 e4
end Go.Av
namespace Go.Av
variable {c : Ctx} {H : Heap} {w : World} {P : Program}

/-- what the steps leave as it was -/
structure Kept (σ σ' : St) : Prop where
  len : σ.H.length ≤ σ'.H.length
  same : ∀ t, t < σ.H.length → t ∉ σ'.dirty → σ'.H[t]? = σ.H[t]?
  more : ∀ t, t ∈ σ.dirty → t ∈ σ'.dirty

theorem Kept.refl (σ : St) : Kept σ σ := ⟨Nat.le_refl _, fun _ _ _ => rfl, fun _ h => h⟩
theorem Kept.trans {σ σ' σ'' : St} (h : Kept σ σ') (h' : Kept σ' σ'') : Kept σ σ'' :=
  ⟨Nat.le_trans h.len h'.len, fun t ht hd => (h'.same t (Nat.lt_of_lt_of_le ht h.len) hd).trans (h.same t ht fun hx => hd (h'.more t hx)), fun t ht => h'.more t (h.more t ht)⟩

theorem callF_kept {C : Cfg} {ent : Ent} (hE : EntOk P ent) {g : FuncId} {args : List V} {r : OR} (hr : callF C ent g args H = some r) :
    H.length ≤ r.H.length ∧ ∀ t, t < H.length → t ∉ r.cls.dirty → r.H[t]? = H[t]? := by
  unfold callF at hr
  have dir : ∀ q, ent g args H = some q → H.length ≤ q.H.length ∧ ∀ t, t < H.length → t ∉ q.d → q.H[t]? = H[t]? := fun q hq => (hE.ok g args H q hq).1
  split at hr
  · split at hr
    · rename_i f caps
      simp only [Option.bind_eq_some_iff] at hr
      obtain ⟨q, h1, h2⟩ := hr
      have hq := (hE.ok f caps H q h1).1
      split at h2
      · split at h2
        · split at h2
          · cases h2; exact hq
          · cases h2
        · cases h2
      · cases h2; exact hq
    · cases hr
  · split at hr
    · simp only [Option.map_eq_some_iff] at hr
      obtain ⟨q, h1, rfl⟩ := hr
      exact dir q h1
    · split at hr
      · simp only [Option.bind_eq_some_iff] at hr
        obtain ⟨q, h1, h2⟩ := hr
        split at h2
        · cases h2
          exact ⟨Nat.le_refl _, fun _ _ _ => rfl⟩
        · simp only [Option.map_eq_some_iff] at h2
          obtain ⟨q2, h3, rfl⟩ := h2
          exact dir q2 h3
      · simp only [Option.bind_eq_some_iff] at hr
        obtain ⟨q, h1, h2⟩ := hr
        have hq := dir q h1
        have hfil : ∀ t, t < H.length → t ∉ q.d.filter (· < H.length) → q.H[t]? = H[t]? := fun t ht hn => hq.2 t ht fun hm => hn (List.mem_filter.2 ⟨hm, by simpa using ht⟩)
        split at h2
        · rename_i hd
          split at h2
          · cases h2
            exact ⟨Nat.le_refl _, fun _ _ _ => rfl⟩
          · cases h2
            exact ⟨hq.1, fun t ht hn => hfil t ht (by rw [hd]; exact hn)⟩
        · cases h2
          exact ⟨hq.1, hfil⟩

theorem runDsc_kept {C : Cfg} {ent : Ent} (hE : EntOk P ent) {d : Dsc} {r : OR} (hr : runDsc C ent H d = some r) :
    H.length ≤ r.H.length ∧ ∀ t, t < H.length → t ∉ r.cls.dirty → r.H[t]? = H[t]? := by
  cases d with
  | call g as => exact callF_kept hE hr
  | val v => simp only [runDsc, Option.some.injEq] at hr; subst hr; exact ⟨Nat.le_refl _, fun _ _ _ => rfl⟩
  | read t f => simp only [runDsc, Option.map_eq_some_iff] at hr; obtain ⟨v, h1, rfl⟩ := hr; exact ⟨Nat.le_refl _, fun _ _ _ => rfl⟩
  | new o v => simp only [runDsc, Option.some.injEq] at hr; subst hr; exact ⟨by simp, fun t ht _ => List.getElem?_append_left ht⟩
  | newFrom s f v => simp only [runDsc, Option.map_eq_some_iff] at hr; obtain ⟨v, h1, rfl⟩ := hr; exact ⟨by simp, fun t ht _ => List.getElem?_append_left ht⟩
  | upd t f v =>
    simp only [runDsc, Option.map_eq_some_iff] at hr
    obtain ⟨v, h1, rfl⟩ := hr
    exact ⟨by simp, fun u hu hn => List.getElem?_set_ne fun e => hn (by simp [Cls.dirty, e])⟩
  | updFrom t s f v =>
    simp only [runDsc, Option.map_eq_some_iff, Option.bind_eq_some_iff] at hr
    obtain ⟨x, h1, y, h2, z, h3, rfl⟩ := hr
    exact ⟨by simp, fun u hu hn => List.getElem?_set_ne fun e => hn (by simp [Cls.dirty, e])⟩
  | pan v => simp only [runDsc, Option.some.injEq] at hr; subst hr; exact ⟨Nat.le_refl _, fun _ _ _ => rfl⟩

theorem runDsc_step {C : Cfg} {ent : Ent} (hE : EntOk P ent) {d : Dsc} {r : OR} {σ : St} (hr : runDsc C ent σ.H d = some r) (tm : List V) : Kept σ ⟨tm, r.H, r.cls.dirty ++ σ.dirty⟩ := by
  obtain ⟨h1, h2⟩ := runDsc_kept hE hr
  exact ⟨h1, fun t ht hn => h2 t ht fun hx => hn (List.mem_append_left _ hx), fun t ht => List.mem_append_right _ ht⟩

theorem evOps_kept {C : Cfg} {ent : Ent} (hE : EntOk P ent) {fid : FuncId} {draw : Bool} {ops : Array Oper} : ∀ {l : List Oper} {id : Nat} {σ : St} {ex : Ex} {σ' : St} {tr : List (Cls × Nat)},
    evOps C ent fid draw ops id l σ = some (ex, σ', tr) → Kept σ σ'
  | [], id, σ, ex, σ', tr, h => by
    simp only [evOps, Option.some.injEq, Prod.mk.injEq] at h
    rw [← h.2.1]; exact Kept.refl σ
  | o :: l, id, σ, ex, σ', tr, h => by
    simp only [evOps] at h
    split at h
    · split at h
      · cases h
      · rename_i r hr
        simp only [Option.bind_eq_some_iff] at hr
        obtain ⟨d, _, hr⟩ := hr
        split at h
        · simp only [Option.some.injEq, Prod.mk.injEq] at h
          rw [← h.2.1]; exact runDsc_step hE hr _
        · simp only [Option.map_eq_some_iff, Prod.mk.injEq] at h
          obtain ⟨q, h1, h2, h3, h4⟩ := h
          have := evOps_kept hE (σ' := q.2.1) (ex := q.1) (tr := q.2.2) h1
          rw [← h3]
          exact (runDsc_step hE hr _).trans this
    · simp only [Option.map_eq_some_iff, Prod.mk.injEq] at h
      obtain ⟨q, h1, h2, h3, h4⟩ := h
      have := evOps_kept hE (σ' := q.2.1) (ex := q.1) (tr := q.2.2) h1
      rw [← h3]
      exact ⟨this.len, this.same, this.more⟩

theorem rvs_put {tm : List V} {a : Act} (ht : RVs c H w tm a.tmps.toList) {dst : Option Nat} {v : V} {x : Value} (hv : RV c H w v x) : RVs c H w (putTm tm dst v) (a.put dst x).tmps.toList := by
  cases dst with
  | none => exact ht
  | some d =>
    simp only [putTm, Act.put, Array.toList_setIfInBounds]
    refine RVs_of (by simp [RVs_length ht]) fun i y z hy hz => ?_
    by_cases hi : d = i
    · subst hi
      have hl : d < tm.length := by
        have := (List.getElem?_eq_some_iff.1 hy).1
        simpa using this
      have hl2 : d < a.tmps.toList.length := by rw [← RVs_length ht]; exact hl
      rw [List.getElem?_set_self hl] at hy
      rw [List.getElem?_set_self hl2] at hz
      cases hy; cases hz; exact hv
    · rw [List.getElem?_set_ne hi] at hy hz
      obtain ⟨u, hu, hr⟩ := RVs_get ht hy
      rw [hz] at hu; cases hu; exact hr

theorem rv_bool {v : V} {b : Bool} (h : RV c H w v (.bool b)) : v = .bool b := by
  cases v <;> simp only [RV] at h
  case bool => rw [Value.bool.injEq] at h; rw [h]
  case junk => simp [undef] at h
  case own => obtain ⟨⟨_, _, h, _⟩, _⟩ := h; cases h
  case ap => obtain ⟨⟨_, h⟩, _⟩ := h; cases h
  case sl => obtain ⟨_, _, h, _⟩ := h; cases h
  case fp => obtain ⟨_, _, h, _⟩ := h; cases h
  case bp => obtain ⟨_, h⟩ := h; cases h
  case mp => obtain ⟨_, h⟩ := h; cases h
  case fn => obtain ⟨_, h, _⟩ := h; cases h
  case ifc => obtain ⟨_, h, _⟩ := h; cases h
  case agg => obtain ⟨_, h, _⟩ := h; cases h
  case tup => obtain ⟨_, h, _⟩ := h; cases h
  all_goals cases h

theorem yld_eq {ops : Array Oper} {tm : List V} {a : Act} (ht : RVs c H w tm a.tmps.toList) (j : Nat) : yielded ops a.tmps j = yld ops tm j := by
  unfold yielded yld
  cases hd : (ops[j]?).bind (·.dst) with
  | none => rfl
  | some d =>
    simp only [Option.bind_some]
    cases hv : tm[d]? with
    | none =>
      have : a.tmps[d]? = none := by
        have h1 := RVs_length ht
        rw [List.getElem?_eq_none_iff] at hv
        rw [Array.getElem?_eq_none_iff]
        simp at h1
        omega
      rw [this]
    | some v =>
      obtain ⟨y, hy, hr⟩ := RVs_get ht hv
      have hy' : a.tmps[d]? = some y := by rw [← Array.getElem?_toList]; exact hy
      rw [hy']
      by_cases hb : ∃ b, v = .bool b
      · obtain ⟨b, rfl⟩ := hb
        simp only [RV] at hr
        rw [hr]
      · have h1 : ∀ b, y ≠ .bool b := fun b hyb => hb ⟨b, rv_bool (by rw [← hyb]; exact hr)⟩
        cases v <;> cases y <;> first | rfl | exact absurd rfl (h1 _) | exact absurd ⟨_, rfl⟩ hb

theorem wanted_eq {ops : Array Oper} {tm : List V} {a : Act} (ht : RVs c H w tm a.tmps.toList) (o : Oper) : Region.wanted o (yielded ops a.tmps) = Region.wanted o (yld ops tm) := by
  unfold Region.wanted
  cases o.guard with
  | none => rfl
  | some g => obtain ⟨j, b⟩ := g; simp only [yld_eq ht]

/-- what is to hold behind a region -/
def RegQ (P : Program) (D : List Deferred) (c : Ctx) (H : Heap) (w : World) (ex : Ex) (σ' : St) (Q : Exit → Act → World → Prop) : Prop :=
  (Act → World → True) ∧ ∀ c' w' (a' : Act), Evo c c' H σ'.H w w' → RH c' σ'.H w' → a'.defers = D →
    match ex with
    | .normal => RVs c' σ'.H w' σ'.tm a'.tmps.toList → Q .normal a' w'
    | .panic v => ∀ x, RV c' σ'.H w' v x → Q (.panic [{ v := x, recovered := false }]) a' w'
    | _ => True

theorem ops_plain {C : Cfg} (S : Sound P C) {ent : Ent} (hE : EntOk P ent) {fid : FuncId} {ops : Array Oper} {D : List Deferred} (ro : Option Nat) {Q : Exit → Act → World → Prop} : ∀ (l : List Oper) (k id : Nat) (σ : St) (ex : Ex) (σ' : St) (tr : List (Cls × Nat)) (c : Ctx) (w : World) (a : Act),
    ops.toList.drop k = l → evOps C ent fid false ops id l σ = some (ex, σ', tr) → RH c σ.H w → RVs c σ.H w σ.tm a.tmps.toList → a.defers = D → RegQ P D c σ.H w ex σ' Q →
    wpOpsIn (fen ro) 0 P ops Q (List.range' k l.length) a w
  | [], k, id, σ, ex, σ', tr, c, w, a, _, he, h, ht, hdf, hQ => by
    simp only [evOps, Option.some.injEq, Prod.mk.injEq] at he
    obtain ⟨rfl, rfl, _⟩ := he
    simp only [List.length_nil, List.range'_zero, wpOpsIn]
    exact hQ.2 c w a (Evo.refl _ _ _) h hdf ht
  | o :: l, k, id, σ, ex, σ', tr, c, w, a, hk, he, h, ht, hdf, hQ => by
    have ho : ops[k]? = some o := by
      have : (ops.toList.drop k)[0]? = some o := by rw [hk]; rfl
      rw [List.getElem?_drop, Nat.add_zero, Array.getElem?_toList] at this
      exact this
    have hk' : ops.toList.drop (k + 1) = l := by
      have := congrArg List.tail hk
      rwa [List.tail_drop] at this
    simp only [List.length_cons, List.range'_succ, wpOpsIn, ho]
    simp only [evOps] at he
    rw [wanted_eq ht]
    split at he
    · rename_i hw
      rw [if_pos hw]
      split at he
      · cases he
      · rename_i r hr
        simp only [Option.bind_eq_some_iff] at hr
        obtain ⟨d, hd, hr⟩ := hr
        refine dsc_step S hE (fun x v => ov_rv ht) h hd hr (fun c' w' x e1 e2 e3 hp => ?_) (fun c' w' x e1 e2 e3 hp => ?_) hQ.1 ro
        · rw [if_neg (by simp [hp])] at he
          simp only [Option.map_eq_some_iff, Prod.mk.injEq] at he
          obtain ⟨q, h1, h2, h3, h4⟩ := he
          have hdf' : (a.put o.dst x).defers = D := by
            cases o.dst <;> exact hdf
          refine ops_plain S hE ro l (k + 1) _ _ q.1 q.2.1 q.2.2 c' w' _ hk' h1 e2 (rvs_put (e1.rvs _ _ ht) e3) hdf' ⟨hQ.1, fun c2 w2 a2 f1 f2 f4 => ?_⟩
          rw [h2, h3]
          rw [h3] at f1 f2
          exact hQ.2 c2 w2 a2 (e1.trans f1) f2 f4
        · rw [if_pos hp] at he
          simp only [Option.some.injEq, Prod.mk.injEq] at he
          obtain ⟨rfl, rfl, _⟩ := he
          exact hQ.2 c' w' a e1 e2 hdf x e3
    · rename_i hw
      rw [if_neg hw]
      simp only [Option.map_eq_some_iff, Prod.mk.injEq] at he
      obtain ⟨q, h1, h2, h3, h4⟩ := he
      have hdf' : (a.put o.dst undef).defers = D := by
        cases o.dst <;> exact hdf
      refine ⟨fun f _ => fen_fn ro f, ops_plain S hE ro l (k + 1) _ { σ with tm := putTm σ.tm o.dst .junk } q.1 q.2.1 q.2.2 c w _ hk' h1 h (rvs_put ht (by simp only [RV])) hdf' ⟨hQ.1, fun c2 w2 a2 f1 f2 f4 => ?_⟩⟩
      rw [h2, h3]
      rw [h3] at f1 f2
      exact hQ.2 c2 w2 a2 f1 f2 f4
end Go.Av
namespace Go.Av

theorem mapM_congr {α β : Type} {f g : α → Option β} : ∀ {l : List α}, (∀ x ∈ l, f x = g x) → l.mapM f = l.mapM g
  | [], _ => rfl
  | x :: l, h => by
    simp only [List.mapM_cons, h x (by simp), mapM_congr (l := l) fun y hy => h y (by simp [hy])]

theorem parts_congr {ρ ρ' : Operand → Option V} {ps : Array (Nat × Operand)} (h : ∀ x ∈ ps.toList.map (·.2), ρ x = ρ' x) : evalParts ρ ps = evalParts ρ' ps :=
  mapM_congr fun p hp => by rw [h p.2 (List.mem_map.2 ⟨p, hp, rfl⟩)]

theorem bound_congr {ρ ρ' : Operand → Option V} {o : Option Operand} {d : Nat} (h : ∀ x ∈ o.toArray, ρ x = ρ' x) : boundD ρ o d = boundD ρ' o d := by
  cases o with
  | none => rfl
  | some x => simp only [boundD, h x (by simp)]

theorem evDsc_congr {C : Cfg} {fid : FuncId} {o : Oper} {ρ ρ' : Operand → Option V} (h : ∀ x ∈ o.op.operands, ρ x = ρ' x) : evDsc C fid o ρ = evDsc C fid o ρ' := by
  cases ho : o.op <;> rw [ho] at h <;> simp only [evDsc, ho]
  case move x => rw [h x (by simp [Op.operands])]
  case assign x => rw [h x (by simp [Op.operands])]
  case pick x y z => rw [h x (by simp [Op.operands]), h y (by simp [Op.operands]), h z (by simp [Op.operands])]
  case box t x => rw [h x (by simp [Op.operands])]
  case build t ps => rw [parts_congr (ρ := ρ) (ρ' := ρ') fun x hx => h x (by simpa [Op.operands] using hx)]
  case buildSlice t l ps => rw [parts_congr (ρ := ρ) (ρ' := ρ') fun x hx => h x (by simpa [Op.operands] using hx)]
  case load t x => rw [h x (by simp [Op.operands])]
  case store t x y => rw [h x (by simp [Op.operands]), h y (by simp [Op.operands])]
  case nilCheck x => rw [h x (by simp [Op.operands])]
  case binOp op t x y u => rw [h x (by simp [Op.operands]), h y (by simp [Op.operands])]
  case unOp op t x => rw [h x (by simp [Op.operands])]
  case convert t u x => rw [h x (by simp [Op.operands])]
  case makeInterface t x => rw [h x (by simp [Op.operands])]
  case makeFunc f xs ys => rw [mapM_congr (f := ρ) (g := ρ') fun x hx => h x (by simp only [Op.operands]; exact Array.mem_append.2 (.inr (Array.mem_toList_iff.1 hx)))]
  case makeSlice t x y => rw [h x (by simp [Op.operands]), h y (by simp [Op.operands])]
  case slice t x l hi m =>
    have h1 : ∀ d, boundD ρ hi d = boundD ρ' hi d := fun d => bound_congr fun y hy => h y (by simp only [Op.operands]; exact Array.mem_append.2 (.inl (Array.mem_append.2 (.inr hy))))
    have h2 : ∀ d, boundD ρ l d = boundD ρ' l d := fun d => bound_congr fun y hy => h y (by simp only [Op.operands]; exact Array.mem_append.2 (.inl (Array.mem_append.2 (.inl (Array.mem_append.2 (.inr hy))))))
    have h3 : ∀ d, boundD ρ m d = boundD ρ' m d := fun d => bound_congr fun y hy => h y (by simp only [Op.operands]; exact Array.mem_append.2 (.inr hy))
    simp only [h x (by simp [Op.operands]), h1, h2, h3]
  case fieldAddr t x j => simp only [h x (by simp [Op.operands])]
  case field t x j => simp only [h x (by simp [Op.operands])]
  case indexAddr t x y => simp only [h x (by simp [Op.operands]), h y (by simp [Op.operands])]
  case index t x y => simp only [h x (by simp [Op.operands]), h y (by simp [Op.operands])]
  case lookup t x y ok => simp only [h x (by simp [Op.operands]), h y (by simp [Op.operands])]
  case mapUpdate t x y z => simp only [h x (by simp [Op.operands]), h y (by simp [Op.operands]), h z (by simp [Op.operands])]
  case extract x j => rw [h x (by simp [Op.operands])]
  case panic x => rw [h x (by simp [Op.operands])]
  case call k =>
    cases hb : k.callee with
    | builtin b =>
      have h2 := mapM_congr (f := ρ) (g := ρ') (l := k.args.toList) fun x hx => h x (by simp only [Op.operands, Call.operands, hb]; simpa using hx)
      simp only [h2]
    | value f =>
      have h1 := h f (by simp [Op.operands, Call.operands, hb])
      have h2 := mapM_congr (f := ρ) (g := ρ') (l := k.args.toList) fun x hx => h x (by simp only [Op.operands, Call.operands, hb]; exact Array.mem_append.2 (.inr (Array.mem_toList_iff.1 hx)))
      simp only [h1, h2]
    | invoke r m => rfl

/-- without objects, the heap is not asked -/
theorem strip_nil {H : Heap} : ∀ {n : Nat} {x x' : V}, strip [] 0 true n x = some x' → strip H 0 true n x = some x'
  | 0, x, x', h => by simp [strip] at h
  | n + 1, x, x', h => by
    have hl : ∀ {xs ys : List V}, xs.mapM (strip [] 0 true n) = some ys → xs.mapM (strip H 0 true n) = some ys := by
      intro xs
      induction xs with
      | nil => intro ys h; exact h
      | cons y xs ih =>
        intro ys h
        simp only [List.mapM_cons, Option.bind_eq_bind, Option.pure_def, Option.bind_eq_some_iff, Option.some.injEq] at h ⊢
        obtain ⟨z, h1, zs, h2, h3⟩ := h
        exact ⟨z, strip_nil h1, zs, ih h2, h3⟩
    by_cases hf : x.flat = true
    · unfold strip at h ⊢; rw [if_pos hf] at h ⊢; exact h
    unfold strip at h ⊢
    rw [if_neg hf] at h ⊢
    clear hf
    cases x <;> simp only at h ⊢ <;> first | exact h | skip
    case sl len full cs => simp only [Option.map_eq_some_iff] at h ⊢; obtain ⟨a, h1, h2⟩ := h; exact ⟨a, hl h1, h2⟩
    case own t off len fin => simp at h
    case agg cs => simp only [Option.map_eq_some_iff] at h ⊢; obtain ⟨a, h1, h2⟩ := h; exact ⟨a, hl h1, h2⟩
    case tup cs => simp only [Option.map_eq_some_iff] at h ⊢; obtain ⟨a, h1, h2⟩ := h; exact ⟨a, hl h1, h2⟩
    case fn f cs => simp only [Option.map_eq_some_iff] at h ⊢; obtain ⟨a, h1, h2⟩ := h; exact ⟨a, hl h1, h2⟩
    case ifc t y => simp only [Option.map_eq_some_iff] at h ⊢; obtain ⟨a, h1, h2⟩ := h; exact ⟨a, strip_nil h1, h2⟩

theorem strips_nil {H : Heap} {n : Nat} : ∀ {xs ys : List V}, xs.mapM (strip [] 0 true n) = some ys → xs.mapM (strip H 0 true n) = some ys
  | [], ys, h => h
  | y :: xs, ys, h => by
    simp only [List.mapM_cons, Option.bind_eq_bind, Option.pure_def, Option.bind_eq_some_iff, Option.some.injEq] at h ⊢
    obtain ⟨z, h1, zs, h2, h3⟩ := h
    exact ⟨z, strip_nil h1, zs, strips_nil h2, h3⟩

/-- what a class says -/
def ClsOk (f : Heap → Option OR) (H : Heap) (r : OR) : Prop :=
  match r.cls with
  | .pure => r.H = H ∧ ∀ H', f H' = some ⟨r.v, r.pan, H', .pure⟩
  | .reads t => r.H = H ∧ t < H.length ∧ ∀ H', H'[t]? = H[t]? → f H' = some ⟨r.v, r.pan, H', .reads t⟩
  | .pcall => r.H = H
  | .loc t => t < H.length ∧ ∃ o, r.H = H.set t o ∧ ∀ H', H'[t]? = H[t]? → f H' = some ⟨r.v, r.pan, H'.set t o, .loc t⟩
  | .add => ∃ o, r.H = H ++ [o] ∧ ∀ H', H'.length = H.length → f H' = some ⟨r.v, r.pan, H' ++ [o], .add⟩
  | .eff d => H.length ≤ r.H.length ∧ ∀ t, t < H.length → t ∉ d → r.H[t]? = H[t]?

theorem runDsc_cls {P : Program} {C : Cfg} {ent : Ent} (hE : EntOk P ent) {H : Heap} {d : Dsc} {r : OR} (hr : runDsc C ent H d = some r) : ClsOk (fun H' => runDsc C ent H' d) H r := by
  have hk := runDsc_kept hE hr
  cases d with
  | val v => simp only [runDsc, Option.some.injEq] at hr; subst hr; exact ⟨rfl, fun H' => rfl⟩
  | read t f =>
    simp only [runDsc, Option.map_eq_some_iff, Option.bind_eq_some_iff] at hr
    obtain ⟨v, ⟨o, h1, h2⟩, rfl⟩ := hr
    exact ⟨rfl, (List.getElem?_eq_some_iff.1 h1).1, fun H' hH => by simp [runDsc, hH, h1, h2]⟩
  | new o v =>
    simp only [runDsc, Option.some.injEq] at hr
    subst hr
    exact ⟨o, rfl, fun H' hH => by simp [runDsc, hH]⟩
  | newFrom s f v =>
    simp only [runDsc, Option.map_eq_some_iff] at hr
    obtain ⟨v, h1, rfl⟩ := hr
    exact hk
  | upd t f v =>
    simp only [runDsc, Option.map_eq_some_iff, Option.bind_eq_some_iff] at hr
    obtain ⟨o, ⟨o0, h1, h2⟩, rfl⟩ := hr
    exact ⟨(List.getElem?_eq_some_iff.1 h1).1, o, rfl, fun H' hH => by simp [runDsc, hH, h1, h2]⟩
  | updFrom t s f v =>
    simp only [runDsc, Option.map_eq_some_iff, Option.bind_eq_some_iff] at hr
    obtain ⟨x, h1, y, h2, z, h3, rfl⟩ := hr
    exact hk
  | pan v => simp only [runDsc, Option.some.injEq] at hr; subst hr; exact ⟨rfl, fun H' => rfl⟩
  | call g args =>
    have hr0 := hr
    simp only [runDsc] at hr
    unfold callF at hr
    split at hr
    · split at hr
      · simp only [Option.bind_eq_some_iff] at hr
        obtain ⟨q, h1, h2⟩ := hr
        split at h2
        · split at h2
          · split at h2
            · cases h2; exact hk
            · cases h2
          · cases h2
        · cases h2; exact hk
      · cases hr
    · rename_i hg
      split at hr
      · simp only [Option.map_eq_some_iff] at hr
        obtain ⟨q, h1, rfl⟩ := hr
        exact hk
      · rename_i hkp
        split at hr
        · rename_i args' hst
          simp only [Option.bind_eq_some_iff] at hr
          obtain ⟨q, h1, h2⟩ := hr
          split at h2
          · rename_i v' hsv
            cases h2
            by_cases hp : (args.mapM (strip [] 0 true sf)).isSome = true
            · simp only [ClsOk, hp, if_true]
              refine ⟨trivial, fun H' => ?_⟩
              obtain ⟨args2, ha2⟩ := Option.isSome_iff_exists.1 hp
              have e1 := strips_nil (H := H') ha2
              have e2 := strips_nil (H := H) ha2
              rw [hst] at e2
              cases e2
              simp only [runDsc, callF, if_neg hg, hkp, e1, Option.bind_eq_some_iff]
              simp [h1, hsv, hp]
            · simp only [ClsOk, if_neg hp]
          · simp only [Option.map_eq_some_iff] at h2
            obtain ⟨q2, h3, rfl⟩ := h2
            exact hk
        · simp only [Option.bind_eq_some_iff] at hr
          obtain ⟨q, h1, h2⟩ := hr
          split at h2
          · split at h2
            · cases h2; rfl
            · cases h2; exact hk
          · cases h2; exact hk

/-- an operation at its place, in a state -/
def opRes (C : Cfg) (ent : Ent) (fid : FuncId) (ops : Array Oper) (id : Nat) (o : Oper) (tm : List V) (H : Heap) : Option OR :=
  if Region.wanted o (yld ops tm) then (evDsc C fid o (ov tm)).bind fun d => runDsc C ent H (atPlace true o id d)
  else some ⟨.junk, false, H, .pure⟩

theorem opRes_cls {P : Program} {C : Cfg} {ent : Ent} (hE : EntOk P ent) {fid : FuncId} {ops : Array Oper} {id : Nat} {o : Oper} {tm : List V} {H : Heap} {r : OR} (hr : opRes C ent fid ops id o tm H = some r) :
    ClsOk (fun H' => opRes C ent fid ops id o tm H') H r := by
  unfold opRes at hr ⊢
  split at hr
  · rename_i hw
    simp only [Option.bind_eq_some_iff] at hr
    obtain ⟨d, h1, h2⟩ := hr
    have := runDsc_cls hE h2
    simp only [hw, if_true, h1, Option.bind_some]
    exact this
  · rename_i hw
    cases hr
    simp only [hw]
    exact ⟨rfl, fun H' => rfl⟩

/-- slots that an operation does not look at do not matter to it -/
theorem opRes_put {C : Cfg} {ent : Ent} {fid : FuncId} {ops : Array Oper} {id : Nat} {o : Oper} {tm : List V} {H : Heap} {dst : Option Nat} {v : V} (h : ∀ d, dst = some d → d ∉ o.looksAt ops) :
    opRes C ent fid ops id o (putTm tm dst v) H = opRes C ent fid ops id o tm H := by
  cases dst with
  | none => rfl
  | some d =>
    have hd := h d rfl
    have hw : Region.wanted o (yld ops (putTm tm (some d) v)) = Region.wanted o (yld ops tm) := by
      unfold Region.wanted
      cases hg : o.guard with
      | none => rfl
      | some g =>
        obtain ⟨j, b⟩ := g
        have : yld ops (putTm tm (some d) v) j = yld ops tm j := by
          unfold yld
          cases ht : (ops[j]?).bind (·.dst) with
          | none => rfl
          | some t =>
            have hne : d ≠ t := fun e => hd (by subst e; simp [Oper.looksAt, hg, ht])
            simp only [Option.bind_some, putTm, List.getElem?_set_ne hne]
        simp only [this]
    have he : evDsc C fid o (ov (putTm tm (some d) v)) = evDsc C fid o (ov tm) := evDsc_congr fun x hx => by
      cases x with
      | tmp t =>
        have hne : d ≠ t := fun e => hd (by
          subst e
          exact List.mem_append_left _ (List.mem_filterMap.2 ⟨.tmp d, by simpa using hx, rfl⟩))
        simp only [ov, putTm, List.getElem?_set_ne hne]
      | _ => rfl
    unfold opRes
    rw [hw, he]

theorem putTm_comm {tm : List V} {x y : Option Nat} {u v : V} (h : ∀ d, x = some d → y ≠ some d) : putTm (putTm tm x u) y v = putTm (putTm tm y v) x u := by
  cases x with
  | none => rfl
  | some d =>
    cases y with
    | none => rfl
    | some e =>
      have hne : d ≠ e := fun hx => h d rfl (by rw [hx])
      exact List.set_comm _ _ hne
end Go.Av
namespace Go.Av

def Cls.grows : Cls → Bool
  | .add | .eff _ => true
  | _ => false

theorem swapH {fx fy : Heap → Option OR} {H : Heap} {rx ry : OR} {nx ny : Nat} (hx : fx H = some rx) (hy : fy rx.H = some ry) (cx : ClsOk fx H rx) (cy : ClsOk fy rx.H ry)
    (hs : Cls.swaps (rx.cls, nx) (ry.cls, ny) = true) (hnx : rx.cls.grows = true → nx = H.length) (hny : ry.cls.grows = true → ny = rx.H.length) (hpx : rx.pan = false) :
    ∃ ry', fy H = some ry' ∧ ry'.v = ry.v ∧ ry'.pan = ry.pan ∧ ry'.cls = ry.cls ∧ (ry.cls.grows = true → H.length = rx.H.length) ∧ (Cls.still (rx.cls, nx) = true → ry'.H = ry.H) ∧
      ∃ rx', fx ry'.H = some rx' ∧ rx'.v = rx.v ∧ rx'.pan = false ∧ rx'.cls = rx.cls ∧ (rx.cls.grows = true → ry'.H.length = H.length) ∧ rx'.H = ry.H := by
  obtain ⟨vx, px, Hx, kx⟩ := rx
  obtain ⟨vy, py, Hy, ky⟩ := ry
  simp only at hpx hs hnx hny hy cy ⊢
  subst hpx
  cases kx with
  | pure =>
    obtain ⟨h1, h2⟩ := cx
    simp only at h1 h2
    subst h1
    exact ⟨_, hy, rfl, rfl, rfl, fun _ => rfl, fun _ => rfl, _, h2 Hy, rfl, rfl, rfl, (fun h => by cases h), rfl⟩
  | reads t =>
    obtain ⟨h1, h2, h3⟩ := cx
    simp only at h1 h2 h3
    subst h1
    have hsame : Hy[t]? = Hx[t]? → ∃ ry', fy Hx = some ry' ∧ ry'.v = vy ∧ ry'.pan = py ∧ ry'.cls = ky ∧ (ky.grows = true → Hx.length = Hx.length) ∧ (Cls.still (Cls.reads t, nx) = true → ry'.H = Hy) ∧
        ∃ rx', fx ry'.H = some rx' ∧ rx'.v = vx ∧ rx'.pan = false ∧ rx'.cls = .reads t ∧ ((Cls.reads t).grows = true → ry'.H.length = Hx.length) ∧ rx'.H = Hy :=
      fun hh => ⟨_, hy, rfl, rfl, rfl, fun _ => rfl, fun _ => rfl, _, h3 Hy hh, rfl, rfl, rfl, (fun h => by cases h), rfl⟩
    cases ky with
    | pure => exact hsame (by rw [show Hy = Hx from cy.1])
    | reads u => exact hsame (by rw [show Hy = Hx from cy.1])
    | pcall => exact hsame (by rw [show Hy = Hx from cy])
    | loc u =>
      obtain ⟨h4, o, h5, h6⟩ := cy
      simp only at h5
      refine hsame ?_
      rw [h5]
      simp [Cls.swaps] at hs
      exact List.getElem?_set_ne (fun e => hs e)
    | add =>
      obtain ⟨o, h5, h6⟩ := cy
      simp only at h5
      refine hsame ?_
      rw [h5]
      exact List.getElem?_append_left h2
    | eff d =>
      refine hsame (cy.2 t h2 ?_)
      simp [Cls.swaps] at hs
      exact hs
  | pcall =>
    have h1 : Hx = H := cx
    subst h1
    have hsame : Hy = Hx → ∃ ry', fy Hx = some ry' ∧ ry'.v = vy ∧ ry'.pan = py ∧ ry'.cls = ky ∧ (ky.grows = true → Hx.length = Hx.length) ∧ (Cls.still (Cls.pcall, nx) = true → ry'.H = Hy) ∧
        ∃ rx', fx ry'.H = some rx' ∧ rx'.v = vx ∧ rx'.pan = false ∧ rx'.cls = .pcall ∧ ((Cls.pcall).grows = true → ry'.H.length = Hx.length) ∧ rx'.H = Hy :=
      fun hh => ⟨_, hy, rfl, rfl, rfl, fun _ => rfl, fun _ => rfl, _, by rw [hh]; exact hx, rfl, rfl, rfl, (fun h => by cases h), hh.symm⟩
    cases ky with
    | pure => exact hsame cy.1
    | reads u => exact hsame cy.1
    | pcall => exact hsame cy
    | loc u => simp [Cls.swaps] at hs
    | add => simp [Cls.swaps] at hs
    | eff d => simp [Cls.swaps] at hs
  | loc t =>
    obtain ⟨h1, o, h2, h3⟩ := cx
    simp only at h1 h2 h3
    subst h2
    cases ky with
    | pure =>
      obtain ⟨h4, h5⟩ := cy
      simp only at h4 h5
      subst h4
      exact ⟨_, h5 H, rfl, rfl, rfl, (fun h => by cases h), (fun h => by simp [Cls.still] at h), _, hx, rfl, rfl, rfl, fun _ => rfl, rfl⟩
    | reads u =>
      obtain ⟨h4, h5, h6⟩ := cy
      simp only at h4 h5 h6
      subst h4
      simp [Cls.swaps] at hs
      exact ⟨_, h6 H (by rw [List.getElem?_set_ne hs]), rfl, rfl, rfl, (fun h => by cases h), (fun h => by simp [Cls.still] at h), _, hx, rfl, rfl, rfl, fun _ => rfl, rfl⟩
    | pcall => simp [Cls.swaps] at hs
    | loc u =>
      obtain ⟨h4, q, h5, h6⟩ := cy
      simp only at h4 h5 h6
      subst h5
      simp [Cls.swaps] at hs
      refine ⟨_, h6 H (by rw [List.getElem?_set_ne hs]), rfl, rfl, rfl, (fun h => by cases h), (fun h => by simp [Cls.still] at h), _, h3 _ (by rw [List.getElem?_set_ne (Ne.symm hs)]), rfl, rfl, rfl, (fun h => by cases h), ?_⟩
      exact List.set_comm _ _ (Ne.symm hs)
    | add =>
      obtain ⟨q, h5, h6⟩ := cy
      simp only at h5 h6
      subst h5
      refine ⟨_, h6 H (by simp), rfl, rfl, rfl, fun _ => by simp, (fun h => by simp [Cls.still] at h), _, h3 _ (by rw [List.getElem?_append_left h1]), rfl, rfl, rfl, (fun h => by cases h), ?_⟩
      exact List.set_append_left _ _ h1
    | eff d => simp [Cls.swaps] at hs
  | add =>
    obtain ⟨o, h2, h3⟩ := cx
    simp only at h2 h3
    subst h2
    have hn := hnx rfl
    cases ky with
    | pure =>
      obtain ⟨h4, h5⟩ := cy
      simp only at h4 h5
      subst h4
      exact ⟨_, h5 H, rfl, rfl, rfl, (fun h => by cases h), (fun h => by simp [Cls.still] at h), _, hx, rfl, rfl, rfl, fun _ => rfl, rfl⟩
    | reads u =>
      obtain ⟨h4, h5, h6⟩ := cy
      simp only at h4 h5 h6
      subst h4
      simp [Cls.swaps] at hs
      exact ⟨_, h6 H (by rw [List.getElem?_append_left (by omega)]), rfl, rfl, rfl, (fun h => by cases h), (fun h => by simp [Cls.still] at h), _, hx, rfl, rfl, rfl, fun _ => rfl, rfl⟩
    | pcall => simp [Cls.swaps] at hs
    | loc u =>
      obtain ⟨h4, q, h5, h6⟩ := cy
      simp only at h4 h5 h6
      subst h5
      simp [Cls.swaps] at hs
      have hu : u < H.length := by omega
      refine ⟨_, h6 H (by rw [List.getElem?_append_left hu]), rfl, rfl, rfl, (fun h => by cases h), (fun h => by simp [Cls.still] at h), _, h3 _ (by simp), rfl, rfl, rfl, fun _ => by simp, ?_⟩
      exact (List.set_append_left _ _ hu).symm
    | add => simp [Cls.swaps] at hs
    | eff d => simp [Cls.swaps] at hs
  | eff dd =>
    have hn := hnx rfl
    cases ky with
    | pure =>
      obtain ⟨h4, h5⟩ := cy
      simp only at h4 h5
      subst h4
      exact ⟨_, h5 H, rfl, rfl, rfl, (fun h => by cases h), (fun h => by simp [Cls.still] at h), _, hx, rfl, rfl, rfl, fun _ => rfl, rfl⟩
    | reads u =>
      obtain ⟨h4, h5, h6⟩ := cy
      simp only at h4 h5 h6
      subst h4
      simp [Cls.swaps] at hs
      exact ⟨_, h6 H ((cx.2 u (by omega) hs.1).symm), rfl, rfl, rfl, (fun h => by cases h), (fun h => by simp [Cls.still] at h), _, hx, rfl, rfl, rfl, fun _ => rfl, rfl⟩
    | pcall => simp [Cls.swaps] at hs
    | loc u => simp [Cls.swaps] at hs
    | add => simp [Cls.swaps] at hs
    | eff d => simp [Cls.swaps] at hs

/-- an operation with what is known of it -/
structure Lab where
  i : Nat
  o : Oper
  cls : Cls
  n : Nat
  pan : Bool

def Fits (L : Lab) (H : Heap) (r : OR) : Prop := r.cls = L.cls ∧ r.pan = L.pan ∧ (L.cls.grows = true → L.n = H.length)

section
variable (C : Cfg) (ent : Ent) (fid : FuncId) (ops : Array Oper) (ids : Nat → Nat)
/-- operations in an order, from a state to what they come to -/
inductive Run : List Lab → List V → Heap → Option V → List V → Heap → Prop
  | nil {tm H} : Run [] tm H none tm H
  | cons {L l tm H r out tm' H'} : opRes C ent fid ops (ids L.i) L.o tm H = some r → L.pan = false → Fits L H r → Run l (putTm tm L.o.dst r.v) r.H out tm' H' → Run (L :: l) tm H out tm' H'
  | pan {L l tm H r tm'} : opRes C ent fid ops (ids L.i) L.o tm H = some r → L.pan = true → Fits L H r → Run (L :: l) tm H (some r.v) tm' r.H

/-- two that may stand in either order -/
def Free (x y : Lab) : Prop := x.pan = false ∧ x.o.apart ops y.o = true ∧ Cls.swaps (x.cls, x.n) (y.cls, y.n) = true ∧ (y.pan = true → Cls.still (x.cls, x.n) = true)
end

variable {P : Program} {C : Cfg} {ent : Ent} {fid : FuncId} {ops : Array Oper} {ids : Nat → Nat}

theorem Run.swap (hE : EntOk P ent) {x y : Lab} {l : List Lab} {tm tm' : List V} {H H' : Heap} {out : Option V} (hf : Free ops x y) (h : Run C ent fid ops ids (x :: y :: l) tm H out tm' H') :
    Run C ent fid ops ids (y :: x :: l) tm H out tm' H' := by
  obtain ⟨hxp, hap, hsw, hst⟩ := hf
  obtain ⟨ha1, ha2, ha3⟩ := Oper.apart_spec hap
  cases h with
  | pan h1 h2 h3 => rw [hxp] at h2; cases h2
  | cons h1 h2 h3 h4 =>
    rename_i rx
    have hxpan : rx.pan = false := by rw [h3.2.1]; exact hxp
    have key : ∀ ry, opRes C ent fid ops (ids y.i) y.o (putTm tm x.o.dst rx.v) rx.H = some ry → Fits y rx.H ry → _ := fun ry g1 g2 => by
      rw [opRes_put ha1] at g1
      exact swapH (fx := fun H => opRes C ent fid ops (ids x.i) x.o tm H) (fy := fun H => opRes C ent fid ops (ids y.i) y.o tm H) h1 g1 (opRes_cls hE h1) (opRes_cls hE g1) (nx := x.n) (ny := y.n)
        (by rw [h3.1, g2.1]; exact hsw) (fun hg => h3.2.2 (by rw [← h3.1]; exact hg)) (fun hg => g2.2.2 (by rw [← g2.1]; exact hg)) hxpan
    cases h4 with
    | cons g1 g2 g3 g4 =>
      rename_i ry
      obtain ⟨ry', k1, k2, k3, k4, k5, k6, rx', k7, k8, k9, k10, k11, k12⟩ := key ry g1 g3
      refine .cons k1 g2 ⟨k4.trans g3.1, k3.trans g3.2.1, fun hg => ?_⟩ ?_
      · rw [g3.2.2 hg, k5 (by rw [g3.1]; exact hg)]
      · refine .cons (r := rx') (by rw [opRes_put ha3]; exact k7) hxp ⟨k10.trans h3.1, by rw [k9, hxp], fun hg => ?_⟩ ?_
        · rw [h3.2.2 hg, k11 (by rw [h3.1]; exact hg)]
        · rw [k12, k8, k2, putTm_comm (fun d hd => fun he => ha2 d he hd)]
          exact g4
    | pan g1 g2 g3 =>
      rename_i ry
      obtain ⟨ry', k1, k2, k3, k4, k5, k6, _⟩ := key ry g1 g3
      have hstill := k6 (by rw [h3.1]; exact hst g2)
      have := Run.pan (l := x :: l) (tm' := tm') k1 g2 ⟨k4.trans g3.1, k3.trans g3.2.1, fun hg => by rw [g3.2.2 hg, k5 (by rw [g3.1]; exact hg)]⟩
      rw [k2, hstill] at this
      exact this

/-- one that none of those ahead of it holds back comes first -/
theorem Run.front (hE : EntOk P ent) {y : Lab} : ∀ {u : List Lab} {l : List Lab} {tm tm' : List V} {H H' : Heap} {out : Option V}, (∀ x ∈ u, Free ops x y) → Run C ent fid ops ids (u ++ y :: l) tm H out tm' H' →
    Run C ent fid ops ids (y :: (u ++ l)) tm H out tm' H'
  | [], l, tm, tm', H, H', out, _, h => h
  | x :: u, l, tm, tm', H, H', out, hf, h => by
    have hx := hf x (by simp)
    refine Run.swap hE hx ?_
    cases h with
    | pan h1 h2 h3 => rw [hx.1] at h2; cases h2
    | cons h1 h2 h3 h4 => exact .cons h1 h2 h3 (Run.front hE (fun z hz => hf z (by simp [hz])) h4)
end Go.Av
