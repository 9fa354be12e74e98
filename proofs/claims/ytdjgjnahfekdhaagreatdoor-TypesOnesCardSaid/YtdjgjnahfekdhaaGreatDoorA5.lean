/- Regions that draw their order, deferred calls, code, and ranges over functions. Conditions: none beyond the hypotheses of each theorem. -/
import Derived.Test.YtdjgjnahfekdhaaGreatDoorA4
set_option linter.unusedSectionVars false
set_option linter.unusedVariables false
set_option linter.unusedSimpArgs false
namespace Go.Av
variable {P : Program} {C : Cfg} {ent : Ent} {fid : FuncId} {ops : Array Oper} {ids : Nat → Nat}

/-- the mask of one operation -/
def maskOf (acc : Array Nat) (o : Oper) : Nat := o.after.foldl (fun s e => if Region.binds .any e then s ||| 2 ^ e.on ||| acc.getD e.on 0 else s) 0

theorem mask_fold (acc : Array Nat) (x : Nat) : ∀ (es : List Edge) (s : Nat), (es.foldl (fun s e => if Region.binds .any e then s ||| 2 ^ e.on ||| acc.getD e.on 0 else s) s).testBit x = true →
    s.testBit x = true ∨ ∃ e ∈ es, Region.binds .any e = true ∧ (x = e.on ∨ (acc.getD e.on 0).testBit x = true)
  | [], s, h => .inl h
  | e :: es, s, h => by
    simp only [List.foldl_cons] at h
    rcases mask_fold acc x es _ h with h1 | ⟨f, hf, h1⟩
    · split at h1
      · rename_i hb
        rw [Nat.testBit_or, Nat.testBit_or, Bool.or_eq_true, Bool.or_eq_true] at h1
        rcases h1 with (h1 | h1) | h1
        · exact .inl h1
        · rw [Nat.testBit_two_pow] at h1
          exact .inr ⟨e, by simp, hb, .inl (by simp at h1; omega)⟩
        · exact .inr ⟨e, by simp, hb, .inr h1⟩
      · exact .inl h1
    · exact .inr ⟨f, by simp [hf], h1⟩

theorem before_list : ∀ (l : List Oper) (acc : Array Nat), (l.foldl (fun acc o => acc.push (maskOf acc o)) acc).size = acc.size + l.length ∧
    (∀ i, i < acc.size → (l.foldl (fun acc o => acc.push (maskOf acc o)) acc)[i]? = acc[i]?) ∧
    ∀ k o, l[k]? = some o → ∃ pre : Array Nat, (∀ i, i < pre.size → (l.foldl (fun acc o => acc.push (maskOf acc o)) acc)[i]? = pre[i]?) ∧ (l.foldl (fun acc o => acc.push (maskOf acc o)) acc)[acc.size + k]? = some (maskOf pre o)
  | [], acc => ⟨by simp, fun i _ => rfl, fun k o h => by simp at h⟩
  | x :: l, acc => by
    obtain ⟨h1, h2, h3⟩ := before_list l (acc.push (maskOf acc x))
    simp only [List.foldl_cons]
    refine ⟨by rw [h1]; simp; omega, fun i hi => ?_, fun k o hk => ?_⟩
    · rw [h2 i (by simp; omega), Array.getElem?_push, if_neg (by omega)]
    · cases k with
      | zero =>
        simp only [List.getElem?_cons_zero, Option.some.injEq] at hk
        subst hk
        refine ⟨acc, fun i hi => ?_, ?_⟩
        · rw [h2 i (by simp; omega), Array.getElem?_push, if_neg (by omega)]
        · rw [Nat.add_zero, h2 _ (by simp), Array.getElem?_push, if_pos rfl]
      | succ k =>
        simp only [List.getElem?_cons_succ] at hk
        obtain ⟨pre, g1, g2⟩ := h3 k o hk
        refine ⟨pre, g1, ?_⟩
        rw [← g2]
        congr 1
        simp; omega

theorem ahead_dep {i j : Nat} {o : Oper} (ho : ops[j]? = some o) (h : ahead (Region.before ops) i j = true) :
    ∃ e ∈ o.after, Region.binds .any e = true ∧ (i = e.on ∨ ahead (Region.before ops) i e.on = true) := by
  have hb : Region.before ops = ops.toList.foldl (fun acc o => acc.push (maskOf acc o)) #[] := by
    unfold Region.before
    rw [← Array.foldl_toList]
    rfl
  obtain ⟨_, _, h3⟩ := before_list ops.toList #[]
  obtain ⟨pre, g1, g2⟩ := h3 j o (by rw [Array.getElem?_toList]; exact ho)
  simp only [List.size_toArray, List.length_nil, Nat.zero_add] at g2
  unfold ahead at h ⊢
  rw [hb] at h ⊢
  rw [Array.getD_eq_getD_getElem?, g2, Option.getD_some] at h
  unfold maskOf at h
  rw [← Array.foldl_toList] at h
  rcases mask_fold pre i o.after.toList 0 h with h1 | ⟨e, he, h1, h2⟩
  · simp at h1
  · refine ⟨e, Array.mem_toList_iff.1 he, h1, h2.imp id fun h2 => ?_⟩
    rw [Array.getD_eq_getD_getElem?] at h2 ⊢
    cases hp : pre[e.on]? with
    | none => rw [hp] at h2; simp at h2
    | some v =>
      rw [hp] at h2
      rw [g1 e.on (Array.getElem?_eq_some_iff.1 hp).1, hp]
      exact h2

/-- what is to hold behind a region, by what was thrown -/
def OutQ (D : List Deferred) (c : Ctx) (H : Heap) (w : World) (out : Option V) (tm' : List V) (H' : Heap) (Q : Exit → Act → World → Prop) : Prop :=
  (Act → World → True) ∧ ∀ c' w' (a' : Act), Evo c c' H H' w w' → RH c' H' w' → a'.defers = D →
    match out with
    | none => RVs c' H' w' tm' a'.tmps.toList → Q .normal a' w'
    | some v => ∀ x, RV c' H' w' v x → Q (.panic [{ v := x, recovered := false }]) a' w'

theorem getD_true {listed : Array Bool} {i : Nat} (h : listed.getD i true = true) (hi : i < listed.size) : listed.getD i false = true := by
  simp [hi] at h ⊢; exact h
theorem getD_not {listed : Array Bool} {i : Nat} (h : listed.getD i true = false) : ¬ listed.getD i false = true := by
  intro h2
  rcases Nat.lt_or_ge i listed.size with hi | hi
  · simp [hi] at h h2; rw [h] at h2; cases h2
  · simp [Array.getElem?_eq_none hi] at h2

theorem any_of_run (S : Sound P C) (hE : EntOk P ent) (hb : ∀ i o, ops[i]? = some o → ∀ e ∈ o.after, Region.binds .any e = true → e.on < i) {D : List Deferred} (ro : Option Nat) {Q : Exit → Act → World → Prop} :
    ∀ (fuel : Nat) (l : List Lab) (listed : Array Bool) (tm tm' : List V) (H H' : Heap) (out : Option V) (c : Ctx) (w : World) (a : Act),
    l.length ≤ fuel → (∀ L ∈ l, ops[L.i]? = some L.o) → (l.map (·.i)).Pairwise (· < ·) → listed.size = ops.size → (∀ i, listed.getD i true = false ↔ ∃ L ∈ l, L.i = i) →
    (∀ j, listed.getD j false = true → ∀ u, ahead (Region.before ops) u j = true → listed.getD u false = true) →
    (∀ u ∈ l, ∀ v ∈ l, u.i < v.i → ahead (Region.before ops) u.i v.i = true ∨ Free ops u v ∨ ∃ p ∈ l, p.pan = true ∧ ahead (Region.before ops) p.i v.i = true) →
    Run C ent fid ops ids l tm H out tm' H' → RH c H w → RVs c H w tm a.tmps.toList → a.defers = D → OutQ D c H w out tm' H' Q → wpAnyIn (fen ro) 0 P .any ops Q fuel listed a w := by
  intro fuel
  induction fuel with
  | zero =>
    intro l listed tm tm' H H' out c w a hlen hlab hsort hsize hun hdown hpw hrun h ht hdf hQ
    have hl : l = [] := List.eq_nil_of_length_eq_zero (by omega)
    subst hl
    cases hrun
    refine ⟨?_, hQ.2 c w a (Evo.refl _ _ _) h hdf ht⟩
    apply List.eq_nil_iff_forall_not_mem.2
    intro j hj
    obtain ⟨h0, _⟩ := mem_ready.1 hj
    obtain ⟨L, hL, _⟩ := (hun j).1 h0
    cases hL
  | succ fuel ih =>
    intro l listed tm tm' H H' out c w a hlen hlab hsort hsize hun hdown hpw hrun h ht hdf hQ
    refine ⟨fun hr => ?_, fun j hj => ?_⟩
    · cases l with
      | nil =>
        cases hrun
        exact hQ.2 c w a (Evo.refl _ _ _) h hdf ht
      | cons L0 l =>
        exfalso
        have hL0 := hlab L0 (by simp)
        have : L0.i ∈ Region.ready .any ops listed := by
          refine mem_ready.2 ⟨(hun L0.i).2 ⟨L0, by simp, rfl⟩, L0.o, hL0, fun e he hbe => ?_⟩
          have hlt := hb L0.i L0.o hL0 e he hbe
          have hsz : L0.i < ops.size := (Array.getElem?_eq_some_iff.1 hL0).1
          cases hg : listed.getD e.on true with
          | true => exact getD_true hg (by omega)
          | false =>
            obtain ⟨L, hL, hLi⟩ := (hun e.on).1 hg
            simp only [List.map_cons, List.pairwise_cons] at hsort
            rcases List.mem_cons.1 hL with rfl | hL
            · omega
            · have := hsort.1 L.i (List.mem_map.2 ⟨L, hL, rfl⟩)
              omega
        rw [hr] at this
        cases this
    · obtain ⟨hjun, o, ho, hdeps⟩ := mem_ready.1 hj
      obtain ⟨L, hL, hLi⟩ := (hun j).1 hjun
      have hLo : L.o = o := by
        have := hlab L hL
        rw [hLi, ho] at this
        exact (Option.some.inj this).symm
      -- none that is ahead of it is left
      have hnot : ∀ u, ahead (Region.before ops) u j = true → listed.getD u false = true := fun u hu => by
        obtain ⟨e, he, hbe, hor⟩ := ahead_dep ho hu
        have hd := hdeps e he hbe
        rcases hor with rfl | hor
        · exact hd
        · exact hdown e.on hd u hor
      have hmem : ∀ x ∈ l, ahead (Region.before ops) x.i j = true → False := fun x hx ha => getD_not ((hun x.i).2 ⟨x, hx, rfl⟩) (hnot x.i ha)
      obtain ⟨u, v, rfl⟩ := List.append_of_mem hL
      have hfree : ∀ x ∈ u, Free ops x L := fun x hx => by
        have hxl : x ∈ u ++ L :: v := by simp [hx]
        have hlt : x.i < L.i := by
          rw [List.map_append, List.map_cons, List.pairwise_append] at hsort
          exact hsort.2.2 x.i (List.mem_map.2 ⟨x, hx, rfl⟩) L.i (by simp)
        rcases hpw x hxl L hL hlt with h1 | h1 | ⟨p, hp, _, h1⟩
        · exact (hmem x hxl (by rw [← hLi]; exact h1)).elim
        · exact h1
        · exact (hmem p hp (by rw [← hLi]; exact h1)).elim
      have hrun' := Run.front hE hfree hrun
      have hsz : j < ops.size := (Array.getElem?_eq_some_iff.1 ho).1
      unfold wpOpIn
      simp only [ho]
      -- what is left behind it
      have rest : ∀ (tm1 : List V) (H1 : Heap) (c1 : Ctx) (w1 : World) (a1 : Act), L.pan = false → Run C ent fid ops ids (u ++ v) tm1 H1 out tm' H' → RH c1 H1 w1 → RVs c1 H1 w1 tm1 a1.tmps.toList → a1.defers = D → Evo c c1 H H1 w w1 →
          wpAnyIn (fen ro) 0 P .any ops Q fuel (listed.setIfInBounds j true) a1 w1 := by
        intro tm1 H1 c1 w1 a1 hLp hr1 hh1 ht1 hd1 he1
        have hsub : ∀ {x}, x ∈ u ++ v → x ∈ u ++ L :: v := fun hx => by
          rcases List.mem_append.1 hx with hx | hx
          · simp [hx]
          · simp [hx]
        have hne : ∀ {x}, x ∈ u ++ v → x.i ≠ j := fun {x} hx => by
          rw [List.map_append, List.map_cons, List.pairwise_append, List.pairwise_cons] at hsort
          rcases List.mem_append.1 hx with hx | hx
          · have := hsort.2.2 x.i (List.mem_map.2 ⟨x, hx, rfl⟩) L.i (by simp)
            omega
          · have := hsort.2.1.1 x.i (List.mem_map.2 ⟨x, hx, rfl⟩)
            omega
        refine ih (u ++ v) _ tm1 tm' H1 H' out c1 w1 a1 (by simp at hlen ⊢; omega) (fun x hx => hlab x (hsub hx)) ?_ (by simp [hsize]) (fun i => ?_) (fun k hk q hq => ?_) (fun x hx y hy hxy => ?_) hr1 hh1 ht1 hd1 ⟨hQ.1, fun c2 w2 a2 f1 f2 f3 => hQ.2 c2 w2 a2 (he1.trans f1) f2 f3⟩
        · refine hsort.sublist ?_
          rw [List.map_append, List.map_append, List.map_cons]
          exact (List.Sublist.refl _).append (List.sublist_cons_self _ _)
        · by_cases hij : i = j
          · subst hij
            constructor
            · intro hx
              simp [hsize, hsz] at hx
            · rintro ⟨x, hx, hxi⟩
              exact absurd hxi (hne hx)
          · rw [getD_set_ne true (Ne.symm hij), hun i]
            constructor
            · rintro ⟨x, hx, hxi⟩
              refine ⟨x, ?_, hxi⟩
              rcases List.mem_append.1 hx with hx | hx
              · simp [hx]
              · rcases List.mem_cons.1 hx with rfl | hx
                · exact absurd (hxi.symm.trans hLi) hij
                · simp [hx]
            · rintro ⟨x, hx, hxi⟩
              exact ⟨x, hsub hx, hxi⟩
        · by_cases hkj : j = k
          · subst hkj
            exact getD_set_true (hnot q hq)
          · rw [getD_set_ne false hkj] at hk
            exact getD_set_true (hdown k hk q hq)
        · rcases hpw x (hsub hx) y (hsub hy) hxy with h1 | h1 | ⟨p, hp, h1, h2⟩
          · exact .inl h1
          · exact .inr (.inl h1)
          · refine .inr (.inr ⟨p, ?_, h1, h2⟩)
            rcases List.mem_append.1 hp with hp | hp
            · simp [hp]
            · rcases List.mem_cons.1 hp with rfl | hp
              · rw [hLp] at h1; cases h1
              · simp [hp]
      have hdput : ∀ x, (a.put o.dst x).defers = D := fun x => by cases o.dst <;> exact hdf
      rw [wanted_eq ht]
      subst hLo
      cases hrun' with
      | cons h1 h2 h3 h4 =>
        rename_i r
        split
        · rename_i hw
          simp only [opRes, hw, if_true, Option.bind_eq_some_iff] at h1
          obtain ⟨d, hd1, hd2⟩ := h1
          refine dsc_step S hE (fun x v => ov_rv ht) h hd1 hd2 (fun c' w' x e1 e2 e3 hp => ?_) (fun c' w' x e1 e2 e3 hp => ?_) hQ.1 ro
          · exact rest _ _ c' w' _ h2 h4 e2 (rvs_put (e1.rvs _ _ ht) e3) (hdput x) e1
          · rw [h3.2.1, h2] at hp; cases hp
        · rename_i hw
          simp only [opRes, hw] at h1
          cases h1
          exact ⟨fun f _ => fen_fn ro f, rest _ _ c w _ h2 h4 h (rvs_put ht (by simp only [RV])) (hdput undef) (Evo.refl _ _ _)⟩
      | pan h1 h2 h3 =>
        rename_i r
        have hrp : r.pan = true := by rw [h3.2.1]; exact h2
        split
        · rename_i hw
          simp only [opRes, hw, if_true, Option.bind_eq_some_iff] at h1
          obtain ⟨d, hd1, hd2⟩ := h1
          refine dsc_step S hE (fun x v => ov_rv ht) h hd1 hd2 (fun c' w' x e1 e2 e3 hp => ?_) (fun c' w' x e1 e2 e3 hp => ?_) hQ.1 ro
          · rw [hrp] at hp; cases hp
          · exact hQ.2 c' w' a e1 e2 hdf x e3
        · rename_i hw
          simp only [opRes, hw] at h1
          cases h1
          cases hrp
end Go.Av
namespace Go.Av
variable {P : Program} {C : Cfg} {ent : Ent} {fid : FuncId} {ops : Array Oper}

def idsOf (ops : Array Oper) (base k : Nat) : Nat := base + ((ops.toList.take k).filter isAlloc).length

def outOf : Ex → Option V
  | .panic v => some v
  | _ => none

theorem ids_next {base k : Nat} {o : Oper} (ho : ops[k]? = some o) : (if isAlloc o then idsOf ops base k + 1 else idsOf ops base k) = idsOf ops base (k + 1) := by
  have hl : ops.toList[k]? = some o := by rw [Array.getElem?_toList]; exact ho
  have : ops.toList.take (k + 1) = ops.toList.take k ++ [o] := by
    rw [List.take_add_one, hl]; rfl
  unfold idsOf
  rw [this, List.filter_append]
  split
  · rename_i h; simp [h]; omega
  · rename_i h; simp [h]

/-- labels that nothing is known of -/
def dummies (k : Nat) : List Oper → List Lab
  | [] => []
  | o :: l => ⟨k, o, .pure, 0, false⟩ :: dummies (k + 1) l

theorem dummies_spec : ∀ (l : List Oper) (k : Nat), ops.toList.drop k = l → (dummies k l).map (·.i) = List.range' k l.length ∧ (∀ L ∈ dummies k l, ops[L.i]? = some L.o ∧ L.pan = false)
  | [], k, _ => ⟨rfl, fun L hL => by cases hL⟩
  | o :: l, k, h => by
    have ho : ops[k]? = some o := by
      have : (ops.toList.drop k)[0]? = some o := by rw [h]; rfl
      rw [List.getElem?_drop, Nat.add_zero, Array.getElem?_toList] at this
      exact this
    have h' : ops.toList.drop (k + 1) = l := by
      have := congrArg List.tail h
      rwa [List.tail_drop] at this
    obtain ⟨h1, h2⟩ := dummies_spec l (k + 1) h'
    refine ⟨by simp [dummies, h1, List.range'_succ], fun L hL => ?_⟩
    simp only [dummies, List.mem_cons] at hL
    rcases hL with rfl | hL
    · exact ⟨ho, rfl⟩
    · exact h2 L hL

def LabsOk (C : Cfg) (ent : Ent) (fid : FuncId) (ops : Array Oper) (base : Nat) (l : List Oper) (k : Nat) (σ : St) (ex : Ex) (σ' : St) (tr : List (Cls × Nat)) : Prop :=
  ∃ Ls : List Lab, Ls.map (·.i) = List.range' k l.length ∧ (∀ L ∈ Ls, ops[L.i]? = some L.o) ∧
      (∀ (j : Nat) (L : Lab), Ls[j]? = some L → (∀ q, tr[j]? = some q → L.cls = q.1 ∧ L.n = q.2) ∧ (L.pan = true ↔ (ex.isPanic = true ∧ j + 1 = tr.length))) ∧
      Run C ent fid ops (idsOf ops base) Ls σ.tm σ.H (outOf ex) σ'.tm σ'.H ∧ ((ex = .normal ∧ tr.length = l.length) ∨ ∃ v, ex = .panic v ∧ 0 < tr.length ∧ tr.length ≤ l.length)

theorem labs_of : ∀ (l : List Oper) (k base : Nat) (σ : St) (ex : Ex) (σ' : St) (tr : List (Cls × Nat)), ops.toList.drop k = l → evOps C ent fid true ops (idsOf ops base k) l σ = some (ex, σ', tr) →
    LabsOk C ent fid ops base l k σ ex σ' tr
  | [], k, base, σ, ex, σ', tr, hk, he => by
    simp only [evOps, Option.some.injEq, Prod.mk.injEq] at he
    obtain ⟨rfl, rfl, rfl⟩ := he
    exact ⟨[], rfl, (fun L hL => by cases hL), (fun j L hL => by simp at hL), .nil, .inl ⟨rfl, rfl⟩⟩
  | o :: l, k, base, σ, ex, σ', tr, hk, he => by
    have ho : ops[k]? = some o := by
      have : (ops.toList.drop k)[0]? = some o := by rw [hk]; rfl
      rw [List.getElem?_drop, Nat.add_zero, Array.getElem?_toList] at this
      exact this
    have hk' : ops.toList.drop (k + 1) = l := by
      have := congrArg List.tail hk
      rwa [List.tail_drop] at this
    simp only [evOps] at he
    rw [ids_next ho] at he
    -- one that goes on
    have goes : ∀ (r : OR) (dirty : List Nat) (q : Ex × St × List (Cls × Nat)), opRes C ent fid ops (idsOf ops base k) o σ.tm σ.H = some r → r.pan = false →
        evOps C ent fid true ops (idsOf ops base (k + 1)) l ⟨putTm σ.tm o.dst r.v, r.H, dirty⟩ = some q → q.1 = ex → q.2.1 = σ' → (r.cls, σ.H.length) :: q.2.2 = tr → LabsOk C ent fid ops base (o :: l) k σ ex σ' tr := by
      intro r dirty q h1 h2 h3 h4 h5 h6
      obtain ⟨Ls, g1, g2, g3, g4, g5⟩ := labs_of l (k + 1) base ⟨putTm σ.tm o.dst r.v, r.H, dirty⟩ q.1 q.2.1 q.2.2 hk' h3
      rw [h4] at g3 g4 g5
      rw [h5] at g4
      subst h6
      refine ⟨⟨k, o, r.cls, σ.H.length, false⟩ :: Ls, by simp [g1, List.range'_succ], fun L hL => ?_, fun j L hL => ?_, .cons h1 rfl ⟨rfl, h2, fun _ => rfl⟩ g4, ?_⟩
      · rcases List.mem_cons.1 hL with rfl | hL
        · exact ho
        · exact g2 L hL
      · cases j with
        | zero =>
          simp only [List.getElem?_cons_zero, Option.some.injEq] at hL
          subst hL
          refine ⟨fun q' hq' => by simp at hq'; subst hq'; exact ⟨rfl, rfl⟩, ⟨fun hx => by simp at hx, fun hx => ?_⟩⟩
          rcases g5 with ⟨g5, _⟩ | ⟨v, g5, g6, _⟩
          · rw [g5] at hx; simp [Ex.isPanic] at hx
          · have := hx.2; simp at this; rw [this] at g6; simp at g6
        | succ j =>
          simp only [List.getElem?_cons_succ] at hL
          obtain ⟨g6, g7⟩ := g3 j L hL
          refine ⟨fun q' hq' => g6 q' (by simpa using hq'), g7.trans ?_⟩
          simp
      · rcases g5 with ⟨g5, g6⟩ | ⟨v, g5, g6, g7⟩
        · exact .inl ⟨g5, by simp [g6]⟩
        · exact .inr ⟨v, g5, by simp, by simp; omega⟩
    split at he
    · rename_i hw
      split at he
      · cases he
      · rename_i r hr
        have hop : opRes C ent fid ops (idsOf ops base k) o σ.tm σ.H = some r := by
          unfold opRes; rw [if_pos hw]; exact hr
        split at he
        · rename_i hp
          simp only [Option.some.injEq, Prod.mk.injEq] at he
          obtain ⟨rfl, rfl, rfl⟩ := he
          obtain ⟨d1, d2⟩ := dummies_spec (ops := ops) l (k + 1) hk'
          refine ⟨⟨k, o, r.cls, σ.H.length, true⟩ :: dummies (k + 1) l, by simp [d1, List.range'_succ], fun L hL => ?_, fun j L hL => ?_, .pan hop rfl ⟨rfl, hp, fun _ => rfl⟩, .inr ⟨r.v, rfl, by simp, by simp⟩⟩
          · rcases List.mem_cons.1 hL with rfl | hL
            · exact ho
            · exact (d2 L hL).1
          · cases j with
            | zero =>
              simp only [List.getElem?_cons_zero, Option.some.injEq] at hL
              subst hL
              exact ⟨fun q' hq' => by simp at hq'; subst hq'; exact ⟨rfl, rfl⟩, by simp [Ex.isPanic]⟩
            | succ j =>
              simp only [List.getElem?_cons_succ] at hL
              have := (d2 L (List.mem_of_getElem? hL)).2
              exact ⟨fun q' hq' => by simp at hq', by simp [this]⟩
        · rename_i hp
          simp only [Option.map_eq_some_iff, Prod.mk.injEq] at he
          obtain ⟨q, h1, h2, h3, h4⟩ := he
          exact goes r _ q hop (by simpa using hp) h1 h2 h3 h4
    · rename_i hw
      simp only [Option.map_eq_some_iff, Prod.mk.injEq] at he
      obtain ⟨q, h1, h2, h3, h4⟩ := he
      have hop : opRes C ent fid ops (idsOf ops base k) o σ.tm σ.H = some ⟨.junk, false, σ.H, .pure⟩ := by
        unfold opRes; rw [if_neg hw]
      exact goes _ _ q hop rfl h1 h2 h3 h4

theorem evOps_ex {draw : Bool} : ∀ {l : List Oper} {id : Nat} {σ : St} {ex : Ex} {σ' : St} {tr : List (Cls × Nat)}, evOps C ent fid draw ops id l σ = some (ex, σ', tr) → ex = .normal ∨ ∃ v, ex = .panic v
  | [], id, σ, ex, σ', tr, h => by
    simp only [evOps, Option.some.injEq, Prod.mk.injEq] at h
    exact .inl h.1.symm
  | o :: l, id, σ, ex, σ', tr, h => by
    simp only [evOps] at h
    split at h
    · split at h
      · cases h
      · split at h
        · simp only [Option.some.injEq, Prod.mk.injEq] at h
          exact .inr ⟨_, h.1.symm⟩
        · simp only [Option.map_eq_some_iff, Prod.mk.injEq] at h
          obtain ⟨q, h1, h2, _⟩ := h
          rw [← h2]
          exact evOps_ex (σ' := q.2.1) (tr := q.2.2) h1
    · simp only [Option.map_eq_some_iff, Prod.mk.injEq] at h
      obtain ⟨q, h1, h2, _⟩ := h
      rw [← h2]
      exact evOps_ex (σ' := q.2.1) (tr := q.2.2) h1

/-- a region that draws its order -/
theorem ops_draw (S : Sound P C) (hE : EntOk P ent) {Q : Exit → Act → World → Prop} {base : Nat} {σ : St} {ex : Ex} {σ' : St} {tr : List (Cls × Nat)} {c : Ctx} {w : World} {a : Act}
    (he : evOps C ent fid true ops base ops.toList σ = some (ex, σ', tr)) (hok : okDraw ops tr ex.isPanic = true) (h : RH c σ.H w) (ht : RVs c σ.H w σ.tm a.tmps.toList) {D : List Deferred} (hdf : a.defers = D) (ro : Option Nat)
    (hQ : RegQ P D c σ.H w ex σ' Q) : wpAnyIn (fen ro) 0 P .any ops Q ops.size (Array.replicate ops.size false) a w := by
  have hbase : base = idsOf ops base 0 := by simp [idsOf]
  rw [hbase] at he
  obtain ⟨Ls, h1, h2, h3, h4, h5⟩ := labs_of ops.toList 0 base σ ex σ' tr rfl he
  simp only [okDraw, Bool.and_eq_true, List.all_eq_true, List.mem_range] at hok
  obtain ⟨⟨⟨o1, o2⟩, o3⟩, o4⟩ := hok
  have hlen : Ls.length = ops.size := by
    have := congrArg List.length h1
    simpa using this
  have hidx : ∀ (j : Nat) (L : Lab), Ls[j]? = some L → L.i = j := fun j L hL => by
    have := congrArg (·[j]?) h1
    simp only [List.getElem?_map, hL, Option.map_some] at this
    have hj : j < ops.toList.length := by
      have := (List.getElem?_eq_some_iff.1 hL).1
      simpa [hlen] using this
    rw [List.getElem?_range' hj] at this
    simp at this
    exact this
  have hat : ∀ L ∈ Ls, Ls[L.i]? = some L := fun L hL => by
    obtain ⟨j, hj⟩ := List.getElem?_of_mem hL
    rw [hidx j L hj]; exact hj
  refine any_of_run S hE (fun i o ho e hem hb => ?_) ro ops.size Ls _ σ.tm σ'.tm σ.H σ'.H (outOf ex) c w a (by omega) h2 ?_ (by simp) (fun i => ?_) (fun j hj => ?_) (fun u hu v hv huv => ?_) h4 h ht hdf ⟨hQ.1, fun c' w' a' e1 e2 e3 => ?_⟩
  · have hi : i < ops.size := (Array.getElem?_eq_some_iff.1 ho).1
    have := o2 i hi
    rw [ho] at this
    have h6 := Array.all_eq_true_iff_forall_mem.1 this e hem
    simp [hb] at h6
    exact h6
  · rw [h1]; exact List.pairwise_lt_range'
  · constructor
    · intro hx
      rcases Nat.lt_or_ge i ops.size with hi | hi
      · have hi2 : i < Ls.length := by omega
        exact ⟨Ls[i], List.getElem_mem hi2, hidx i _ (List.getElem?_eq_getElem hi2)⟩
      · simp [hi] at hx
    · rintro ⟨L, hL, rfl⟩
      have hi : L.i < ops.size := (Array.getElem?_eq_some_iff.1 (h2 L hL)).1
      simp [hi]
  · exfalso
    rcases Nat.lt_or_ge j ops.size with hi | hi
    · simp [hi] at hj
    · simp [hi] at hj
  · have hus : u.i < ops.size := (Array.getElem?_eq_some_iff.1 (h2 u hu)).1
    have hvs : v.i < ops.size := (Array.getElem?_eq_some_iff.1 (h2 v hv)).1
    obtain ⟨l1, l2⟩ := h3 _ _ (hat u hu)
    obtain ⟨l3, l4⟩ := h3 _ _ (hat v hv)
    rcases Nat.lt_or_ge v.i tr.length with hvt | hvt
    · have hut : u.i < tr.length := by omega
      have hp := o1 v.i hvt u.i huv
      simp only [okPair, Bool.or_eq_true] at hp
      rcases hp with hp | hp
      · exact .inl hp
      · rw [h2 u hu, h2 v hv, List.getElem?_eq_getElem hut, List.getElem?_eq_getElem hvt] at hp
        simp only [Bool.and_eq_true, slotsApart] at hp
        have q1 := l1 _ (List.getElem?_eq_getElem hut)
        have q2 := l3 _ (List.getElem?_eq_getElem hvt)
        by_cases hvp : v.pan = true
        · obtain ⟨hx, hvl⟩ := l4.1 hvp
          rw [if_pos hx] at o4
          simp only [Bool.and_eq_true, List.all_eq_true, List.mem_range, decide_eq_true_eq] at o4
          have := o4.1.2 u.i (by omega)
          rw [Bool.or_eq_true] at this
          rcases this with hy | hy
          · left
            rw [show v.i = tr.length - 1 by omega]; exact hy
          · refine .inr (.inl ⟨?_, hp.1, by rw [q1.1, q1.2, q2.1, q2.2]; exact hp.2, fun _ => ?_⟩)
            · cases hup : u.pan with
              | false => rfl
              | true => have := (l2.1 hup).2; omega
            · rw [List.getElem?_eq_getElem hut] at hy
              rw [q1.1, q1.2]; exact hy
        · refine .inr (.inl ⟨?_, hp.1, by rw [q1.1, q1.2, q2.1, q2.2]; exact hp.2, fun hx => absurd hx hvp⟩)
          cases hup : u.pan with
          | false => rfl
          | true => have := (l2.1 hup).2; omega
    · rcases h5 with ⟨_, h6⟩ | ⟨x, h6, h7, h8⟩
      · have h6' : tr.length = ops.size := by simpa using h6
        omega
      · have hx : ex.isPanic = true := by rw [h6]; rfl
        rw [if_pos hx] at o4
        simp only [Bool.and_eq_true, List.all_eq_true, List.mem_range, decide_eq_true_eq] at o4
        rw [Array.length_toList] at h8
        have hpl : tr.length - 1 < Ls.length := by omega
        have hpm := List.getElem?_eq_getElem hpl
        refine .inr (.inr ⟨Ls[tr.length - 1], List.getElem_mem hpl, ?_, ?_⟩)
        · exact ((h3 _ _ hpm).2).2 ⟨hx, by omega⟩
        · rw [hidx _ _ hpm]
          have := o4.2 v.i hvs
          rw [Bool.or_eq_true, decide_eq_true_eq] at this
          rcases this with hy | hy
          · omega
          · exact hy
  · have := hQ.2 c' w' a' e1 e2 e3
    rcases h5 with ⟨rfl, _⟩ | ⟨x, rfl, _⟩
    · exact this
    · exact this
end Go.Av
namespace Go.Av
variable {c c' : Ctx} {H H' : Heap} {w w' w2 : World} {P : Program}

def quiet : Option Obj → Prop
  | some (.deferred _) | some (.loop _) => True
  | _ => False

/-- worlds that differ in such blocks alone -/
structure Side (w w2 : World) : Prop where
  size : w2.heap.size = w.heap.size
  same : ∀ b : Nat, w2.heap[b]? = w.heap[b]? ∨ (quiet w.heap[b]? ∧ quiet w2.heap[b]?)
  io : Outs w w2

theorem quiet_cell {b o : Nat} (h : quiet w.heap[b]?) : w.cell? ⟨b, o, none⟩ = none := by
  simp only [World.cell?]
  split
  · rename_i hb; rw [hb] at h; exact h.elim
  · rfl
theorem quiet_room {b : Nat} (h : quiet w.heap[b]?) : room w b = 0 := by
  unfold room
  split
  · rename_i hb; rw [hb] at h; exact h.elim
  · rfl
theorem Side.cell (h : Side w w2) (b o : Nat) : w2.cell? ⟨b, o, none⟩ = w.cell? ⟨b, o, none⟩ := by
  rcases h.same b with h1 | ⟨h1, h2⟩
  · exact cell_congr h1 o
  · rw [quiet_cell h1, quiet_cell h2]
theorem Side.room (h : Side w w2) (b : Nat) : Go.Av.room w2 b = Go.Av.room w b := by
  rcases h.same b with h1 | ⟨h1, h2⟩
  · exact room_congr h1
  · rw [quiet_room h1, quiet_room h2]

theorem Side.pos (h : Side w w2) {t p f n b o : Nat} (hp : Pos c w t p f n b o) : Pos c w2 t p f n b o :=
  ⟨hp.1.imp id fun hl i hi => ⟨(hl i hi).1, by rw [h.cell, h.cell]; exact (hl i hi).2⟩, hp.2⟩
theorem Side.own (h : Side w w2) {t off len fin : Nat} {v : Value} (hv : ROwn c H w t off len fin v) : ROwn c H w2 t off len fin v := by
  obtain ⟨hsv, k, st, me, cs, h1, h2, h3⟩ := hv
  refine ⟨hsv, k, st, me, cs, h1, h2, fun hm => ?_⟩
  obtain ⟨b, o, cap, h4, h5, h6, h7, h8⟩ := h3 hm
  exact ⟨b, o, cap, h4, h5, h6, h.pos h7, fun hx => by rw [h.room]; exact h8 hx⟩
theorem Side.ap (h : Side w w2) {t off fin : Nat} {v : Value} (hv : RAp c H w t off fin v) : RAp c H w2 t off fin v := by
  obtain ⟨hsv, k, st, me, cs, h1, h2, h3⟩ := hv
  refine ⟨hsv, k, st, me, cs, h1, h2, fun hm => ?_⟩
  obtain ⟨b, o, h4, h7⟩ := h3 hm
  exact ⟨b, o, h4, h.pos h7⟩

mutual
theorem Side.rv (h : Side w w2) : ∀ (x : V) (v : Value), RV c H w x v → RV c H w2 x v
  | .junk, v, hv | .int _ _, v, hv | .bool _, v, hv | .str _, v, hv | .bp _ _, v, hv | .nilp, v, hv | .mp _, v, hv | .nilm, v, hv | .nilf, v, hv | .nili, v, hv => by simpa only [RV] using hv
  | .sl len full cs, v, hv => by
    simp only [RV] at hv ⊢
    obtain ⟨a, cap, h1, h2, h3, h4, h5⟩ := hv
    exact ⟨a, cap, h1, h2, h3, h4, fun x hx => ⟨(h5 x hx).1, Side.rvat h x.block x.off cs (h5 x hx).2⟩⟩
  | .own t off len fin, v, hv => by simp only [RV] at hv ⊢; exact h.own hv
  | .fp cs, v, hv => by
    simp only [RV] at hv ⊢
    obtain ⟨b, o, h1, h2⟩ := hv
    exact ⟨b, o, h1, Side.rvat h b o cs h2⟩
  | .ap t off fin, v, hv => by simp only [RV] at hv ⊢; exact h.ap hv
  | .fn f caps, v, hv => by
    simp only [RV] at hv ⊢
    obtain ⟨cv, h1, h2⟩ := hv
    exact ⟨cv, h1, Side.rvs h caps _ h2⟩
  | .ifc t x, v, hv => by
    simp only [RV] at hv ⊢
    obtain ⟨y, h1, h2⟩ := hv
    exact ⟨y, h1, Side.rv h x y h2⟩
  | .agg cs, v, hv => by
    simp only [RV] at hv ⊢
    obtain ⟨a, h1, h2⟩ := hv
    exact ⟨a, h1, Side.rvs h cs _ h2⟩
  | .tup cs, v, hv => by
    simp only [RV] at hv ⊢
    obtain ⟨a, h1, h2⟩ := hv
    exact ⟨a, h1, Side.rvs h cs _ h2⟩
theorem Side.rvs (h : Side w w2) : ∀ (xs : List V) (vs : List Value), RVs c H w xs vs → RVs c H w2 xs vs
  | [], vs, hv => by simpa only [RVs] using hv
  | x :: xs, vs, hv => by
    simp only [RVs] at hv ⊢
    obtain ⟨y, ys, h1, h2, h3⟩ := hv
    exact ⟨y, ys, h1, Side.rv h x y h2, Side.rvs h xs ys h3⟩
theorem Side.rvat (h : Side w w2) (b : Nat) : ∀ (o : Nat) (xs : List V), RVat c H w b o xs → RVat c H w2 b o xs
  | o, [], _ => by simp only [RVat]
  | o, x :: xs, hv => by
    simp only [RVat] at hv ⊢
    obtain ⟨h1, ⟨y, h2, h3⟩, h4⟩ := hv
    exact ⟨h1, ⟨y, by rw [h.cell]; exact h2, Side.rv h x y h3⟩, Side.rvat h b (o + 1) xs h4⟩
end

theorem Side.ob (h : Side w w2) {t : Nat} {o : Ob} (hr : RO c H w t o) (hn : o ≠ .hole) : w2.heap[c.ρ t]? = w.heap[c.ρ t]? := by
  rcases h.same (c.ρ t) with h1 | ⟨h1, _⟩
  · exact h1
  · exfalso
    cases o <;> simp only [RO] at hr <;> first | exact hn rfl | skip
    · obtain ⟨_, _, _, a, e, h4, _⟩ := hr; rw [h4] at h1; exact h1
    · obtain ⟨_, _, _, _, a, e, ⟨_, _, h4⟩, _⟩ := hr; rw [h4] at h1; exact h1
    · obtain ⟨_, _, _, a, e, h4, _⟩ := hr; rw [h4] at h1; exact h1

theorem Side.rh (h : Side w w2) (hh : RH c H w) : RH c H w2 := by
  refine ⟨hh.base, by rw [h.size]; exact hh.low, fun b o hx => by rw [h.size]; exact hh.fz b o hx, fun t o ht => ?_, hh.inj⟩
  have hr := hh.ob t o ht
  by_cases hn : o = .hole
  · subst hn; simp only [RO]
  have ho := h.ob hr hn
  cases o with
  | hole => exact absurd rfl hn
  | box cs =>
    simp only [RO, ho, h.size] at hr ⊢
    obtain ⟨h1, h2, h3, a, e, h4, h5⟩ := hr
    exact ⟨h1, h2, h3, a, e, h4, h.rvs _ _ h5⟩
  | arr k st me cs =>
    simp only [RO, ho, h.size] at hr ⊢
    obtain ⟨h1, h2, h3, h6, a, e, h4, h7, h5⟩ := hr
    exact ⟨h1, h2, h3, h6, a, e, h4, h7, h.rvs _ _ h5⟩
  | map es =>
    simp only [RO, ho, h.size] at hr ⊢
    obtain ⟨h1, h2, h3, a, e, h4, h7, h5⟩ := hr
    exact ⟨h1, h2, h3, a, e, h4, h7, fun i p q hp hq => ⟨h.rv _ _ (h5 i p q hp hq).1, h.rv _ _ (h5 i p q hp hq).2⟩⟩

/-- a step, and then something aside -/
theorem Evo.side (h : Evo c c' H H' w w') (hs : Side w' w2) (hh : RH c H w) (hold : ∀ b : Nat, b < w.heap.size → w2.heap[b]? = w'.heap[b]?) : Evo c c' H H' w w2 where
  base := h.base
  low := h.low
  old := fun b hb => (hold b (Nat.lt_of_lt_of_le hb hh.low)).trans (h.old b hb)
  frz := h.frz
  fresh := h.fresh
  cell := fun b o hb => (hs.cell b o).trans (h.cell b o hb)
  size := by rw [hs.size]; exact h.size
  len := h.len
  box := h.box
  map := h.map
  own := fun t off len fin v hv => hs.own (h.own t off len fin v hv)
  ap := fun t off fin v hv => hs.ap (h.ap t off fin v hv)
  rest := fun b hb hn => (hold b hb).trans (h.rest b hb hn)
  place := h.place
  io := ⟨hs.io.1.trans h.io.1, hs.io.2.trans h.io.2⟩
  still := h.still

theorem side_put {r : Nat} {o : Obj} (h1 : quiet w.heap[r]?) (h2 : quiet (some o)) : Side w (w.putObj r o) := by
  refine ⟨by simp, fun b => ?_, ⟨rfl, rfl⟩⟩
  by_cases hb : b = r
  · subst hb
    have hl : b < w.heap.size := by
      rcases Nat.lt_or_ge b w.heap.size with hl | hl
      · exact hl
      · rw [Array.getElem?_eq_none hl] at h1; exact h1.elim
    exact .inr ⟨h1, by rw [World.putObj_heap_same hl]; exact h2⟩
  · exact .inl (World.putObj_heap_other hb)

/-- the deferred calls that an activation has: marks of ranges over functions, laid behind lo, none of them an object's block -/
def Dfr (ro : Option Nat) (lo : Nat) (c : Ctx) (H : Heap) (w : World) (ds : List Deferred) : Prop :=
  (ro ≠ none → ds = []) ∧ ∃ rs : List Nat, ds = rs.map (fun r => ({ target := .collected r, args := #[] } : Deferred)) ∧ rs.Nodup ∧
    ∀ r ∈ rs, lo ≤ r ∧ w.heap[r]? = some (.deferred (some [])) ∧ ∀ t o, H[t]? = some o → o ≠ .hole → c.ρ t ≠ r

theorem lt_of_heap {r : Nat} {o : Obj} (h : w.heap[r]? = some o) : r < w.heap.size := (Array.getElem?_eq_some_iff.1 h).1

theorem Dfr.nil (ro : Option Nat) (lo : Nat) : Dfr ro lo c H w [] := ⟨fun _ => rfl, [], rfl, .nil, fun _ h => by cases h⟩

/-- no object's block stays none -/
theorem Evo.apart (h : Evo c c' H H' w w') {r : Nat} (hr : r < w.heap.size) (hn : ∀ t o, H[t]? = some o → o ≠ .hole → c.ρ t ≠ r) : ∀ t o, H'[t]? = some o → o ≠ .hole → c'.ρ t ≠ r := by
  intro t o ht ho e
  rcases h.place t o ht ho with ⟨o0, h1, h2, h3⟩ | h1
  · exact hn t o0 h1 h2 (by rw [← h3]; exact e)
  · omega

theorem Dfr.evo {ro : Option Nat} {lo : Nat} {ds : List Deferred} (h : Evo c c' H H' w w') (hd : Dfr ro lo c H w ds) : Dfr ro lo c' H' w' ds := by
  obtain ⟨h0, rs, h1, h2, h3⟩ := hd
  refine ⟨h0, rs, h1, h2, fun r hr => ?_⟩
  obtain ⟨h4, h5, h6⟩ := h3 r hr
  have hl := lt_of_heap h5
  exact ⟨h4, by rw [h.rest r hl h6]; exact h5, h.apart hl h6⟩

/-- a function is left, its marks are taken up -/
theorem leaves_marks {fn : Func} {tmps : Array Value} {R : Ending → World → Prop} {w0 : World} {c0 : Ctx} {H0 : Heap} (hh0 : RH c0 H0 w0) {u : FrameMode} (hu : u ≠ .run)
    (hR : ∀ w, Evo c0 c H0 H w0 w → RH c H w → Side w' w → LeavesIn Fence.wide 0 P fn tmps R [] u w) :
    ∀ (rs : List Nat) (w1 : World), Evo c0 c H0 H w0 w1 → RH c H w1 → Side w' w1 → rs.Nodup → (∀ r ∈ rs, w0.heap.size ≤ r ∧ w1.heap[r]? = some (.deferred (some [])) ) →
      LeavesInM Fence.wide 0 P fn tmps R (rs.map (fun r => ({ target := .collected r, args := #[] } : Deferred))) u w1
  | [], w1, he, hh, hs, _, _ => hR w1 he hh hs
  | r :: rs, w1, he, hh, hs, hnd, hrs => by
    obtain ⟨h1, h2⟩ := hrs r (by simp)
    have hsd : Side w1 (w1.putObj r (.deferred none)) := side_put (by rw [h2]; exact trivial) trivial
    refine ⟨hu, .inl ⟨r, w1.putObj r (.deferred none), rfl, run_takeDeferred h2, ?_⟩⟩
    refine leaves_marks hh0 hu hR rs _ (he.side hsd hh0 fun b hb => World.putObj_heap_other (by omega)) (hsd.rh hh) ⟨hsd.size.trans hs.size, fun b => ?_, ⟨hsd.io.1.trans hs.io.1, hsd.io.2.trans hs.io.2⟩⟩ (List.nodup_cons.1 hnd).2 fun q hq => ?_
    · rcases hs.same b with g1 | ⟨g1, g2⟩
      · rcases hsd.same b with g3 | ⟨g3, g4⟩
        · exact .inl (g3.trans g1)
        · exact .inr ⟨by rw [← g1]; exact g3, g4⟩
      · rcases hsd.same b with g3 | ⟨g3, g4⟩
        · exact .inr ⟨g1, by rw [g3]; exact g2⟩
        · exact .inr ⟨g1, g4⟩
    · have hne : q ≠ r := fun e => (List.nodup_cons.1 hnd).1 (e ▸ hq)
      obtain ⟨g1, g2⟩ := hrs q (by simp [hq])
      exact ⟨g1, by rw [World.putObj_heap_other hne]; exact g2⟩
end Go.Av
namespace Go.Av
variable {P : Program} {C : Cfg}

/-- how a piece of code is left -/
def ExR (c : Ctx) (w : World) (σ : St) (a : Act) : Ex → Exit → Prop
  | .normal, .normal => RVs c σ.H w σ.tm a.tmps.toList
  | .ret, .ret => RVs c σ.H w σ.tm a.tmps.toList
  | .exit i, .exit j => i = j ∧ RVs c σ.H w σ.tm a.tmps.toList
  | .panic v, .panic ch => ∃ x, ch = [{ v := x, recovered := false }] ∧ RV c σ.H w v x
  | _, _ => False

def Post (ro : Option Nat) (lo : Nat) (c : Ctx) (H : Heap) (w : World) (ex : Ex) (σ' : St) : Exit → Act → World → Prop := fun e a' w' =>
  False ∨ ∃ c', Evo c c' H σ'.H w w' ∧ RH c' σ'.H w' ∧ Dfr ro lo c' σ'.H w' a'.defers ∧ ExR c' w' σ' a' ex e

/-- a loop in at most n rounds -/
def WpN (P : Program) (ro : Option Nat) (n : Nat) (code : Code) (Q : Exit → Act → World → Prop) (a : Act) (w : World) : Prop :=
  match code with
  | .loop b => Code.roundsIn (fen ro) 0 P b Q n a w
  | code => code.wpIn (fen ro) 0 P Q a w

theorem WpN.wp {ro : Option Nat} {n : Nat} {code : Code} {Q : Exit → Act → World → Prop} {a : Act} {w : World} (h : WpN P ro n code Q a w) : code.wpIn (fen ro) 0 P Q a w := by
  cases code <;> first | exact h | exact wpIn_loop_rounds n h

theorem rounds_mono {ro : Option Nat} {b : Code} {Q Q' : Exit → Act → World → Prop} (hq : ∀ e a w, Q e a w → Q' e a w) : ∀ {n : Nat} {a : Act} {w : World}, Code.roundsIn (fen ro) 0 P b Q n a w → Code.roundsIn (fen ro) 0 P b Q' n a w
  | 0, a, w, h => h.elim
  | n + 1, a, w, h => by
    rw [roundsIn_succ] at h ⊢
    refine wpIn_mono h fun e a' w' hx => ?_
    cases e <;> first | exact rounds_mono hq hx | exact hq _ _ _ hx

/-- in a function's frame, or, without ranges over functions, in a round's -/
def RoOk (ro : Option Nat) (code : Code) : Prop := ro = none ∨ noRange code = true

def CodeOk (P : Program) (code : Code) (σ : St) (ex : Ex) (σ' : St) : Prop :=
  Kept σ σ' ∧ ∃ n, ∀ ro, RoOk ro code → ∀ c w (a : Act) lo, RH c σ.H w → RVs c σ.H w σ.tm a.tmps.toList → Dfr ro lo c σ.H w a.defers ∧ lo ≤ w.heap.size → WpN P ro n code (Post ro lo c σ.H w ex σ') a w

theorem CodeOk.wp {code : Code} {σ : St} {ex : Ex} {σ' : St} (h : CodeOk P code σ ex σ') {ro : Option Nat} (hro : RoOk ro code) {c : Ctx} {w : World} {a : Act} {lo : Nat} (h1 : RH c σ.H w) (h2 : RVs c σ.H w σ.tm a.tmps.toList) (h3 : Dfr ro lo c σ.H w a.defers ∧ lo ≤ w.heap.size) : code.wpIn (fen ro) 0 P (Post ro lo c σ.H w ex σ') a w := by
  obtain ⟨_, n, hn⟩ := h
  exact (hn ro hro c w a lo h1 h2 h3).wp

def RecOk (P : Program) (rec : FuncId → Rec) : Prop := ∀ fid code σ ex σ', rec fid code σ = some (ex, σ') → CodeOk P code σ ex σ'

/-- what is known of a range over marked -/
def RangeOk (P : Program) (C : Cfg) : Prop := ∀ (rec : Rec), (∀ code σ ex σ', rec code σ = some (ex, σ') → CodeOk P code σ ex σ') → ∀ f p asg b t l n full cs σ ex σ', noRange asg = true → noRange b = true → σ.H[t]? = some (.box [l]) →
  strip σ.H 0 true sf l = some (.sl n full cs) → cs.length = n ∧ n ≤ roomy → ov σ.tm f = some (.fn C.marked [.bp t 0]) → marks rec p asg b σ.tm cs 0 σ = some (ex, σ') → CodeOk P (.rangeFunc f #[p] asg b) σ ex σ'

theorem load_rv (hT : ∀ t i, C.T t = some i → TIok P t i) {c : Ctx} {H : Heap} {w : World} (h : RH c H w) {t : TypeId} {i : TI} (hi : C.T t = some i) {v u : V} {x : Value} (hv : RV c H w v x) (hp : partH i H v = some u) :
    ∃ b q y, x = .pointer (some ⟨b, q, none⟩) ∧ (loadVar t ⟨b, q, none⟩).run P w = .ok y w ∧ RV c H w u y := by
  unfold partH at hp
  unfold loadD at hp
  cases v <;> simp only at hp <;> first | (cases hp; done) | skip
  case fp cs =>
    cases hq : part i cs 0 with
    | none => rw [hq] at hp; simp at hp
    | some z =>
      rw [hq] at hp
      simp at hp
      subst hp
      simp only [RV] at hv
      obtain ⟨b, q, g1, g2⟩ := hv
      obtain ⟨vs, g3, g4⟩ := rvat_rows g2
      obtain ⟨y, g5, g6⟩ := part_rv (P := P) (hT _ _ hi) hq g3 g4
      exact ⟨b, q, y, g1, g5, g6⟩
  case bp t0 off =>
    simp only [Option.bind_eq_some_iff] at hp
    obtain ⟨ob, hob, hf⟩ := hp
    simp only [RV] at hv
    obtain ⟨⟨cs0, g0⟩, g1⟩ := hv
    split at hf
    · rename_i cs
      have hr := h.ob _ _ hob
      simp only [RO] at hr
      obtain ⟨_, _, _, ar, e, g2, g3⟩ := hr
      obtain ⟨y, g5, g6⟩ := part_rv (P := P) (hT _ _ hi) hf (b := c.ρ t0) (o := 0) g3 (fun j u hu => by rw [cell_at g2, Nat.zero_add, ← Array.getElem?_toList]; exact hu)
      rw [Nat.zero_add] at g5
      exact ⟨_, _, y, g1, g5, g6⟩
    · cases hf
  case ap t0 off fin =>
    simp only [Option.bind_eq_some_iff] at hp
    obtain ⟨ob, hob, hf⟩ := hp
    simp only [RV] at hv
    split at hf
    · rename_i k st me cs
      split at hf
      · rename_i hc
        obtain ⟨_, k2, st2, me2, cs2, g4, g5, g6⟩ := hv
        rw [hob] at g4; cases g4
        obtain ⟨b, q, g7, g10⟩ := g6 hc.2.2
        obtain ⟨vs, g8, g9⟩ := ap_rows h hob g10 hc.1 g5
        obtain ⟨y, g11, g12⟩ := part_rv (P := P) (hT _ _ hi) (part_shift hf) g8 g9
        exact ⟨b, q, y, g7, g11, g12⟩
      · cases hf
    · cases hf

def resSem (tmps : Array Value) : ResultVar → Sem Value
  | .tmp t => pure (tmps.getD t undef)
  | .cell a t => do loadVar t (← asAddr (tmps.getD a undef))

theorem getD_rv {c : Ctx} {H : Heap} {w : World} {tm : List V} {tmps : Array Value} (ht : RVs c H w tm tmps.toList) {t : Nat} {v : V} (h : tm[t]? = some v) : RV c H w v (tmps.getD t undef) := by
  obtain ⟨y, hy, hr⟩ := RVs_get ht h
  have : tmps.getD t undef = y := by
    rw [Array.getD_eq_getD_getElem?, ← Array.getElem?_toList, hy]; rfl
  rw [this]; exact hr

theorem res_one (hT : ∀ t i, C.T t = some i → TIok P t i) {c : Ctx} {H : Heap} {w : World} (h : RH c H w) {tm : List V} {tmps : Array Value} (ht : RVs c H w tm tmps.toList) {r : ResultVar} {v : V} (hr : readRes C tm H r = some v) :
    ∃ x, (resSem tmps r).run P w = .ok x w ∧ RV c H w v x := by
  cases r with
  | tmp t => exact ⟨_, rfl, getD_rv ht hr⟩
  | cell a t =>
    simp only [readRes, Option.bind_eq_some_iff] at hr
    obtain ⟨i, hi, u, hu, hp⟩ := hr
    obtain ⟨b, q, y, g1, g2, g3⟩ := load_rv hT h hi (getD_rv ht hu) hp
    exact ⟨y, by simp [resSem, g1, asAddr, g2], g3⟩

theorem res_list (hT : ∀ t i, C.T t = some i → TIok P t i) {c : Ctx} {H : Heap} {w : World} (h : RH c H w) {tm : List V} {tmps : Array Value} (ht : RVs c H w tm tmps.toList) : ∀ {rs : List ResultVar} {vs : List V}, rs.mapM (readRes C tm H) = some vs →
    ∃ xs, (rs.mapM (resSem tmps)).run P w = .ok xs w ∧ RVs c H w vs xs
  | [], vs, hr => by simp at hr; subst hr; exact ⟨[], rfl, by simp only [RVs]⟩
  | r :: rs, vs, hr => by
    simp only [List.mapM_cons, Option.bind_eq_bind, Option.pure_def, Option.bind_eq_some_iff, Option.some.injEq] at hr
    obtain ⟨v, h1, ws, h2, rfl⟩ := hr
    obtain ⟨x, g1, g2⟩ := res_one hT h ht h1
    obtain ⟨xs, g3, g4⟩ := res_list hT h ht h2
    refine ⟨x :: xs, ?_, by simp only [RVs]; exact ⟨x, xs, rfl, g2, g4⟩⟩
    simp [List.mapM_cons, g1, g3]

theorem results_rv (hT : ∀ t i, C.T t = some i → TIok P t i) {c : Ctx} {w : World} {σ : St} (h : RH c σ.H w) {tmps : Array Value} (ht : RVs c σ.H w σ.tm tmps.toList) {fn : Func} {v : V} (hr : results C fn σ = some v) :
    ∃ x, (Go.results fn tmps).run P w = .ok x w ∧ RV c σ.H w v x := by
  have hrun : ∀ xs, (fn.results.toList.mapM (resSem tmps)).run P w = .ok xs w → (Go.results fn tmps).run P w = .ok (if h : xs.toArray.size = 1 then xs.toArray[0] else .tuple xs.toArray) w := by
    intro xs hx
    have : fn.results = fn.results.toList.toArray := by simp
    have he : Go.results fn tmps = (do let vs ← fn.results.mapM (resSem tmps); pure (if h : vs.size = 1 then vs[0] else .tuple vs)) := by
      unfold Go.results
      congr
    rw [he, this, List.mapM_toArray]
    simp [hx]
  unfold results at hr
  split at hr
  · rename_i r hl
    obtain ⟨x, g1, g2⟩ := res_one hT h ht hr
    refine ⟨x, ?_, g2⟩
    have := hrun [x] (by rw [hl]; simp [List.mapM_cons, g1])
    simpa using this
  · rename_i rs hne
    simp only [Option.map_eq_some_iff] at hr
    obtain ⟨vs, h1, rfl⟩ := hr
    obtain ⟨xs, g1, g2⟩ := res_list hT h ht h1
    refine ⟨.tuple xs.toArray, ?_, by simp only [RV]; exact ⟨xs.toArray, rfl, by simpa using g2⟩⟩
    have := hrun xs g1
    rw [this]
    have hlen : xs.length ≠ 1 := by
      rw [← RVs_length g2]
      intro hx
      have : fn.results.toList.length = 1 := by
        have hm : ∀ {l : List ResultVar} {ws : List V}, l.mapM (readRes C σ.tm σ.H) = some ws → ws.length = l.length := by
          intro l
          induction l with
          | nil => intro ws hw; simp at hw; subst hw; rfl
          | cons y l ih =>
            intro ws hw
            simp only [List.mapM_cons, Option.bind_eq_bind, Option.pure_def, Option.bind_eq_some_iff, Option.some.injEq] at hw
            obtain ⟨z, _, zs, h3, rfl⟩ := hw
            simp [ih h3]
        rw [← hm h1]; exact hx
      obtain ⟨r, hr⟩ := List.length_eq_one_iff.1 this
      exact hne r hr
    simp [hlen]

theorem enter_ok (S : Sound P C) {rec : FuncId → Rec} (hrec : RecOk P rec) : EntOk P (enter C rec) := by
  refine ⟨fun g args H r hr => ?_, fun g args H r hr => ?_⟩
  · unfold enter at hr
    split at hr
    · rename_i fn hF
      split at hr
      · rename_i cd hb
        obtain ⟨h1, h2⟩ := S.F g fn hF
        exact ⟨fn, cd, h1, hb, h2⟩
      · cases hr
    · cases hr
  unfold enter at hr
  split at hr
  · rename_i fn hF
    split at hr
    · rename_i cd hb
      obtain ⟨hf, _⟩ := S.F g fn hF
      -- the function's own frame
      have start : ∀ (c : Ctx) (w : World) (vs : Array Value), RVs c H w args vs.toList → RVs c H w (args ++ List.replicate (fn.ntmps - args.length) .junk) (vs ++ Array.replicate (fn.ntmps - vs.size) undef).toList := by
        intro c w vs hv
        have hl := RVs_length hv
        rw [Array.toList_append, Array.toList_replicate, hl, Array.length_toList]
        refine RVs_append hv (RVs_of (by simp) fun i x y hx hy => ?_)
        rw [List.getElem?_replicate] at hx hy
        split at hx
        · rename_i hi
          rw [if_pos hi] at hy
          cases hx; cases hy
          simp only [RV]
        · cases hx
      split at hr
      · rename_i v σ he
        cases hr
        have hco := hrec _ _ _ _ _ he
        have hk := hco.1
        refine ⟨⟨hk.len, fun t ht hn => hk.same t ht hn⟩, fun c w vs h hv => ?_⟩
        refine callsIn_wide.1 (callsIn_of_wp_marks (n := 0) hf hb trivial (wpIn_mono (F := Fence.wide) (hco.wp (ro := none) (.inl rfl) h (start c w vs hv) ⟨Dfr.nil none w.heap.size, Nat.le_refl _⟩) fun e a' w' hp => ?_))
        rcases hp with hf | ⟨c', e1, e2, e3, e4⟩
        · exact hf.elim
        · cases e <;> simp only [ExR] at e4
          obtain ⟨x, rfl, hx⟩ := e4
          obtain ⟨_, rs, q1, q2, q3⟩ := e3
          simp only [bodyPostM]
          rw [q1]
          refine leaves_marks (w' := w') h (by simp) (fun w2 f1 f2 f3 => ?_) rs w' e1 e2 ⟨rfl, fun b => .inl rfl, ⟨rfl, rfl⟩⟩ q2 fun r hr => ⟨(q3 r hr).1, (q3 r hr).2.1⟩
          simp only [LeavesIn]
          exact .inr ⟨c', x, f1, f2, f3.rv _ _ hx, rfl⟩
      · rename_i σ he
        simp only [Option.map_eq_some_iff] at hr
        obtain ⟨v, hv0, rfl⟩ := hr
        have hco := hrec _ _ _ _ _ he
        have hk := hco.1
        refine ⟨⟨hk.len, fun t ht hn => hk.same t ht hn⟩, fun c w vs h hv => ?_⟩
        refine callsIn_wide.1 (callsIn_of_wp_marks (n := 0) hf hb trivial (wpIn_mono (F := Fence.wide) (hco.wp (ro := none) (.inl rfl) h (start c w vs hv) ⟨Dfr.nil none w.heap.size, Nat.le_refl _⟩) fun e a' w' hp => ?_))
        rcases hp with hf | ⟨c', e1, e2, e3, e4⟩
        · exact hf.elim
        · cases e <;> simp only [ExR] at e4
          obtain ⟨_, rs, q1, q2, q3⟩ := e3
          simp only [bodyPostM]
          rw [q1]
          refine leaves_marks (w' := w') h (by simp) (fun w2 f1 f2 f3 => ?_) rs w' e1 e2 ⟨rfl, fun b => .inl rfl, ⟨rfl, rfl⟩⟩ q2 fun r hr => ⟨(q3 r hr).1, (q3 r hr).2.1⟩
          obtain ⟨x, g1, g2⟩ := results_rv S.T f2 (f3.rvs _ _ e4) hv0
          simp only [LeavesIn]
          exact ⟨x, g1, .inr ⟨c', x, f1, f2, g2, rfl⟩⟩
      · rename_i σ he
        simp only [Option.map_eq_some_iff] at hr
        obtain ⟨v, hv0, rfl⟩ := hr
        have hco := hrec _ _ _ _ _ he
        have hk := hco.1
        refine ⟨⟨hk.len, fun t ht hn => hk.same t ht hn⟩, fun c w vs h hv => ?_⟩
        refine callsIn_wide.1 (callsIn_of_wp_marks (n := 0) hf hb trivial (wpIn_mono (F := Fence.wide) (hco.wp (ro := none) (.inl rfl) h (start c w vs hv) ⟨Dfr.nil none w.heap.size, Nat.le_refl _⟩) fun e a' w' hp => ?_))
        rcases hp with hf | ⟨c', e1, e2, e3, e4⟩
        · exact hf.elim
        · cases e <;> simp only [ExR] at e4
          obtain ⟨_, rs, q1, q2, q3⟩ := e3
          simp only [bodyPostM]
          rw [q1]
          refine leaves_marks (w' := w') h (by simp) (fun w2 f1 f2 f3 => ?_) rs w' e1 e2 ⟨rfl, fun b => .inl rfl, ⟨rfl, rfl⟩⟩ q2 fun r hr => ⟨(q3 r hr).1, (q3 r hr).2.1⟩
          obtain ⟨x, g1, g2⟩ := results_rv S.T f2 (f3.rvs _ _ e4) hv0
          simp only [LeavesIn]
          exact ⟨x, g1, .inr ⟨c', x, f1, f2, g2, rfl⟩⟩
      · cases hr
    · cases hr
  · cases hr

theorem ExR.cast {c : Ctx} {w : World} {σ : St} {a : Act} {ex : Ex} {e : Exit} (h : ExR c w σ a ex e) : (e = .normal ↔ ex = .normal) := by
  cases ex <;> cases e <;> simp_all [ExR]

theorem okWp {code : Code} {σ : St} {ex : Ex} {σ' : St} (hn : ∀ b, code ≠ .loop b) (hk : Kept σ σ') (h : ∀ ro, RoOk ro code → ∀ c w (a : Act) lo, RH c σ.H w → RVs c σ.H w σ.tm a.tmps.toList → Dfr ro lo c σ.H w a.defers ∧ lo ≤ w.heap.size → code.wpIn (fen ro) 0 P (Post ro lo c σ.H w ex σ') a w) : CodeOk P code σ ex σ' :=
  ⟨hk, 0, fun ro hro c w a lo h1 h2 h3 => by
    have := h ro hro c w a lo h1 h2 h3
    cases code <;> first | exact this | exact absurd rfl (hn _)⟩

theorem step_ok (S : Sound P C) (hR : RangeOk P C) {rec : FuncId → Rec} (hrec : RecOk P rec) : RecOk P (stepE C rec) := by
  intro fid code σ ex σ' he
  have hE := enter_ok S hrec
  cases code <;> simp only [stepE] at he <;> first | (cases he; done) | skip
  case skip =>
    cases he
    exact okWp (fun _ h => by cases h) (Kept.refl _) fun ro hro c w a lo h ht hd => wpIn_skip (.inr ⟨c, Evo.refl _ _ _, h, hd.1, ht⟩)
  case exit id =>
    cases he
    exact okWp (fun _ h => by cases h) (Kept.refl _) fun ro hro c w a lo h ht hd => wpIn_exit (.inr ⟨c, Evo.refl _ _ _, h, hd.1, rfl, ht⟩)
  case ret =>
    cases he
    exact okWp (fun _ h => by cases h) (Kept.refl _) fun ro hro c w a lo h ht hd => wpIn_ret (.inr ⟨c, Evo.refl _ _ _, h, hd.1, ht⟩)
  case seq x y =>
    split at he
    · rename_i σ1 h1
      have r1 := hrec _ _ _ _ _ h1
      have r2 := hrec _ _ _ _ _ he
      refine okWp (fun _ h => by cases h) (r1.1.trans r2.1) fun ro hro c w a lo h ht hd => wpIn_seq (wpIn_mono (r1.wp (hro.imp (fun hx => hx) fun hx => by simp only [noRange, Bool.and_eq_true] at hx; exact hx.1) h ht hd) fun e a' w' hp => ?_)
      rcases hp with hf | ⟨c', e1, e2, e3, e4⟩
      · exact hf.elim
      · have he0 : e = .normal := (ExR.cast e4).2 rfl
        subst he0
        refine wpIn_mono (r2.wp (hro.imp (fun hx => hx) fun hx => by simp only [noRange, Bool.and_eq_true] at hx; exact hx.2) e2 e4 ⟨e3, Nat.le_trans hd.2 e1.size⟩) fun e' a2 w'' hp2 => ?_
        rcases hp2 with hf | ⟨c2, f1, f2, f3, f4⟩
        · exact hf.elim
        · exact .inr ⟨c2, e1.trans f1, f2, f3, f4⟩
    · rename_i hne
      have r1 := hrec _ _ _ _ _ he
      refine okWp (fun _ h => by cases h) r1.1 fun ro hro c w a lo h ht hd => wpIn_seq (wpIn_mono (r1.wp (hro.imp (fun hx => hx) fun hx => by simp only [noRange, Bool.and_eq_true] at hx; exact hx.1) h ht hd) fun e a' w' hp => ?_)
      rcases hp with hf | ⟨c', e1, e2, e3, e4⟩
      · exact hf.elim
      · have hn : e ≠ .normal := fun hx => by
          have := (ExR.cast e4).1 hx
          subst this
          exact hne _ he
        cases e <;> first | exact absurd rfl hn | exact .inr ⟨c', e1, e2, e3, e4⟩
  case cond x y z =>
    split at he
    · rename_i hx
      have r1 := hrec _ _ _ _ _ he
      refine okWp (fun _ h => by cases h) r1.1 fun ro hro c w a lo h ht hd => ?_
      have hb := ov_rv ht hx
      simp only [RV] at hb
      exact wpIn_cond_true hb (r1.wp (hro.imp (fun hx => hx) fun hx => by simp only [noRange, Bool.and_eq_true] at hx; exact hx.1) h ht hd)
    · rename_i hx
      have r1 := hrec _ _ _ _ _ he
      refine okWp (fun _ h => by cases h) r1.1 fun ro hro c w a lo h ht hd => ?_
      have hb := ov_rv ht hx
      simp only [RV] at hb
      exact wpIn_cond_false hb (r1.wp (hro.imp (fun hx => hx) fun hx => by simp only [noRange, Bool.and_eq_true] at hx; exact hx.2) h ht hd)
    · cases he
  case block id b =>
    split at he
    · rename_i i σ1 h1
      have r1 := hrec _ _ _ _ _ h1
      split at he
      · rename_i hi
        cases he
        subst hi
        refine okWp (fun _ h => by cases h) r1.1 fun ro hro c w a lo h ht hd => wpIn_block (wpIn_mono (r1.wp (hro.imp (fun hx => hx) fun hx => by simpa only [noRange] using hx) h ht hd) fun e a' w' hp => ?_)
        rcases hp with hf | ⟨c', e1, e2, e3, e4⟩
        · exact hf.elim
        · cases e <;> simp only [ExR] at e4
          obtain ⟨rfl, e4⟩ := e4
          simp only [Exit.inBlock, if_true]
          exact .inr ⟨c', e1, e2, e3, e4⟩
      · rename_i hi
        cases he
        refine okWp (fun _ h => by cases h) r1.1 fun ro hro c w a lo h ht hd => wpIn_block (wpIn_mono (r1.wp (hro.imp (fun hx => hx) fun hx => by simpa only [noRange] using hx) h ht hd) fun e a' w' hp => ?_)
        rcases hp with hf | ⟨c', e1, e2, e3, e4⟩
        · exact hf.elim
        · cases e <;> simp only [ExR] at e4
          obtain ⟨rfl, e4⟩ := e4
          simp only [Exit.inBlock, if_neg hi]
          exact .inr ⟨c', e1, e2, e3, rfl, e4⟩
    · rename_i hne
      have r1 := hrec _ _ _ _ _ he
      refine okWp (fun _ h => by cases h) r1.1 fun ro hro c w a lo h ht hd => wpIn_block (wpIn_mono (r1.wp (hro.imp (fun hx => hx) fun hx => by simpa only [noRange] using hx) h ht hd) fun e a' w' hp => ?_)
      rcases hp with hf | ⟨c', e1, e2, e3, e4⟩
      · exact hf.elim
      · cases e <;> cases ex <;> simp only [ExR] at e4 <;> first | exact e4.elim | exact absurd he (hne _ _) | exact .inr ⟨c', e1, e2, e3, e4⟩
  case loop b =>
    split at he
    · rename_i σ1 h1
      have r1 := hrec _ _ _ _ _ h1
      obtain ⟨k2, n, hn⟩ := hrec _ _ _ _ _ he
      refine ⟨r1.1.trans k2, n + 1, fun ro hro c w a lo h ht hd => ?_⟩
      show Code.roundsIn (fen ro) 0 P b _ (n + 1) a w
      rw [roundsIn_succ]
      refine wpIn_mono (r1.wp (hro.imp (fun hx => hx) fun hx => by simpa only [noRange] using hx) h ht hd) fun e a' w' hp => ?_
      rcases hp with hf | ⟨c', e1, e2, e3, e4⟩
      · exact hf.elim
      · have he0 : e = .normal := (ExR.cast e4).2 rfl
        subst he0
        refine rounds_mono (fun e' a2 w'' hp2 => ?_) (hn ro hro c' w' a' lo e2 e4 ⟨e3, Nat.le_trans hd.2 e1.size⟩)
        rcases hp2 with hf | ⟨c2, f1, f2, f3, f4⟩
        · exact hf.elim
        · exact .inr ⟨c2, e1.trans f1, f2, f3, f4⟩
    · rename_i hne
      have r1 := hrec _ _ _ _ _ he
      refine ⟨r1.1, 1, fun ro hro c w a lo h ht hd => ?_⟩
      show Code.roundsIn (fen ro) 0 P b _ 1 a w
      rw [roundsIn_succ]
      refine wpIn_mono (r1.wp (hro.imp (fun hx => hx) fun hx => by simpa only [noRange] using hx) h ht hd) fun e a' w' hp => ?_
      rcases hp with hf | ⟨c', e1, e2, e3, e4⟩
      · exact hf.elim
      · have hn : e ≠ .normal := fun hx => by
          have := (ExR.cast e4).1 hx
          subst this
          exact hne _ he
        cases e <;> first | exact absurd rfl hn | exact .inr ⟨c', e1, e2, e3, e4⟩
  case region id ops draw =>
    simp only [Option.bind_eq_some_iff] at he
    obtain ⟨q, h1, h2⟩ := he
    split at h2
    · rename_i hc
      simp only [Option.some.injEq, Prod.mk.injEq] at h2
      obtain ⟨rfl, rfl⟩ := h2
      have hk := evOps_kept hE (ex := q.1) (σ' := q.2.1) (tr := q.2.2) h1
      have hex := evOps_ex (ex := q.1) (σ' := q.2.1) (tr := q.2.2) h1
      have hk' : Kept σ q.2.1 := by
        refine ⟨Nat.le_trans (by cases draw <;> simp [holes]) hk.len, fun t ht hn => ?_, hk.more⟩
        rw [hk.same t (Nat.lt_of_lt_of_le ht (by cases draw <;> simp [holes])) hn]
        cases draw
        · simp [holes]
        · simp only [holes, if_true]; exact List.getElem?_append_left ht
      have hreg : ∀ {c c0 : Ctx} {w w0 : World} {ro : Option Nat} {lo : Nat} {D : List Deferred}, Dfr ro lo c0 σ.H w0 D → Evo c0 c σ.H (holes draw ops σ.H) w0 w → RegQ P D c (holes draw ops σ.H) w q.1 q.2.1 (Post ro lo c0 σ.H w0 q.1 q.2.1) := fun hd0 he0 => by
        refine ⟨fun _ _ => trivial, fun c' w' a' e1 e2 e3' => ?_⟩
        have e3 := hd0.evo (he0.trans e1)
        rw [← e3'] at e3
        rcases hex with hx | ⟨v, hx⟩
        · rw [hx]
          exact fun ht => .inr ⟨c', he0.trans e1, e2, e3, ht⟩
        · rw [hx]
          exact fun x hv => .inr ⟨c', he0.trans e1, e2, e3, x, rfl, hv⟩
      cases draw with
      | false =>
        refine okWp (fun _ h => by cases h) hk' fun ro hro c w a lo h ht hd => wpIn_region ?_
        have := ops_plain S hE ro ops.toList 0 _ { σ with H := holes false ops σ.H } q.1 q.2.1 q.2.2 c w a rfl h1 (by simpa [holes] using h) (by simpa [holes] using ht) rfl (hreg hd.1 (by simp only [holes]; exact Evo.refl _ _ _))
        rw [Array.length_toList, ← List.range_eq_range'] at this
        exact this
      | true =>
        refine okWp (fun _ h => by cases h) hk' fun ro hro c w a lo h ht hd => wpIn_region_any S.mixed ?_
        have hok : okDraw ops q.2.2 q.1.isPanic = true := by
          rcases hc with hc | hc
          · cases hc
          · exact hc
        obtain ⟨e1, h3⟩ := step_same h (w' := { w with drawn := w.drawn + 1 }) rfl
        obtain ⟨e2, h4⟩ := step_holes h3 (ops.toList.filter isAlloc).length
        have e3 := e1.trans e2
        exact ops_draw S hE (σ := { σ with H := holes true ops σ.H }) h1 hok h4 (e3.rvs _ _ ht) rfl ro (hreg hd.1 e3)
    · cases h2
  case rangeFunc f ps asg b =>
    split at he
    · rename_i g t p hf hps
      split at he
      · rename_i hg
        obtain ⟨rfl, hg2, hg3⟩ := hg
        split at he
        · rename_i l hob
          split at he
          · rename_i n full cs h1
            split at he
            case isFalse => cases he
            rename_i hlen
            have hps' : ps = #[p] := by apply Array.ext'; simpa using hps
            subst hps'
            exact hR (rec fid) (fun code σ ex σ' h => hrec fid code σ ex σ' h) f p asg b t l n full cs σ ex σ' hg2 hg3 hob h1 hlen hf he
          · cases he
        · cases he
      · cases he
    · cases he

/-- THE EVALUATOR IS RIGHT. -/
theorem ev_ok (S : Sound P C) (hR : RangeOk P C) : ∀ n, RecOk P (ev C n)
  | 0 => fun fid code σ ex σ' he => by simp [ev] at he
  | n + 1 => step_ok S hR (ev_ok S hR n)

theorem call_ok (S : Sound P C) (hR : RangeOk P C) (n : Nat) : EntOk P (enter C (ev C n)) := enter_ok S (ev_ok S hR n)
end Go.Av
namespace Go.Av
variable {P : Program}

/-- what is asked at a round's end -/
def rPost (P : Program) (l : Nat) (R : Ending → World → Prop) : Exit → Act → World → Prop
  | .normal, _, w => ∃ v w', (Instr.endRound l none).run P w = .ok v w' ∧ R (.returned v) w'
  | .ret, _, w => ∃ v w', (Instr.endRound l (some .ret)).run P w = .ok v w' ∧ R (.returned v) w'
  | .exit id, _, w => ∃ v w', (Instr.endRound l (some (.exit id))).run P w = .ok v w' ∧ R (.returned v) w'
  | .outgrown, _, w => R .outgrown w
  | _, _, _ => False

def aPost (P : Program) (l : Nat) (body : Code) (R : Ending → World → Prop) : Exit → Act → World → Prop
  | .normal, a, w => ∃ w2, (Instr.beginRound l).run P w = .ok () w2 ∧ body.wpIn (fen (some l)) 0 P (rPost P l R) a w2
  | .outgrown, _, w => R .outgrown w
  | _, _, _ => False

theorem round_of_wp {n : Nat} {l : Nat} {f : FuncId} {tmps : Array Value} {assign body : Code} {w : World} {R : Ending → World → Prop}
    (h : assign.wpIn (fen (some l)) 0 P (aPost P l body R) { tmps := tmps, defers := [] } w) : RoundIn Fence.wide n P l f tmps assign body w R := by
  refine ⟨trivial, fun c cs hr => ?_⟩
  let b : Frame := { (default : Frame) with fn := f, kind := .normal, roundOf := some l }
  have hb0 : Frame.round l f tmps assign body .normal = b.atR { tmps := tmps, defers := [] } [.code assign, .beginRound, .code body] := by
    simp [Frame.round, Frame.atR, b]
  have hF : Fence.wide.fn b.fn := trivial
  have hr' : Fence.wide.room ((c :: cs).length + 1 + 0) := room_wide _
  obtain ⟨e, a₁, w₁, hq, harr⟩ := h b [.beginRound, .code body] (c :: cs) rfl trivial (room_wide _)
  rw [← hb0] at harr
  change ArrivesIn (Machine.fenced P Fence.wide) P _ _ _ _ _ _ _ at harr
  cases e with
  | normal =>
    obtain ⟨w₂, hbr, hbody⟩ := hq
    have s1 : StepsIn (Machine.fenced P Fence.wide) P (lone (b.atR a₁ [.beginRound, .code body]) (c :: cs) w₁) (lone (b.atR a₁ [.code body]) (c :: cs) w₂) :=
      .one (fenced_calm (fr := b.atR a₁ [.beginRound, .code body]) hF hr' rfl) (stepR_beginRound rfl hbr)
    obtain ⟨e₂, a₂, w₃, hq₂, harr₂⟩ := hbody b [] (c :: cs) rfl trivial (room_wide _)
    change ArrivesIn (Machine.fenced P Fence.wide) P _ _ _ _ _ _ _ at harr₂
    cases e₂ with
    | normal =>
      obtain ⟨v, w₄, hend, hR⟩ := hq₂
      exact ⟨.returned v, w₄, hR, (StepsIn.trans harr s1).trans (StepsIn.trans harr₂ (.one (fenced_calm (fr := b.atR a₂ []) hF hr' rfl) (stepR_round_end rfl rfl hend)))⟩
    | ret =>
      obtain ⟨v, w₄, hend, hR⟩ := hq₂
      obtain ⟨k₁, hs⟩ := harr₂.2 rfl
      exact ⟨.returned v, w₄, hR, (StepsIn.trans harr s1).trans (StepsIn.trans hs (.one (fenced_calm (fr := b.atR a₂ (.code .ret :: k₁)) hF hr' rfl) (stepR_round_ret rfl rfl hend)))⟩
    | exit id =>
      obtain ⟨v, w₄, hend, hR⟩ := hq₂
      obtain ⟨k₁, hk, hs⟩ := harr₂.2 rfl rfl
      exact ⟨.returned v, w₄, hR, (StepsIn.trans harr s1).trans (StepsIn.trans hs (.one (fenced_calm (fr := b.atR a₂ (.code (.exit id) :: k₁)) hF hr' rfl) (stepR_round_exit rfl rfl hk hend)))⟩
    | outgrown => exact ⟨.outgrown, w₃, hq₂, Outgrown.of_steps (StepsIn.trans harr s1).steps (harr₂.resolve_left (by simp [b]))⟩
    | goto t => exact hq₂.elim
    | panic chain => exact hq₂.elim
  | outgrown => exact ⟨.outgrown, w₁, hq, harr.resolve_left (by simp [b])⟩
  | exit id => exact hq.elim
  | goto t => exact hq.elim
  | ret => exact hq.elim
  | panic chain => exact hq.elim
end Go.Av
namespace Go.Av
variable {c c' : Ctx} {H H' : Heap} {w w' w2 : World} {P : Program}

def Spare (c : Ctx) (H : Heap) (b : Nat) : Prop := (∀ t o, H[t]? = some o → o ≠ .hole → c.ρ t ≠ b) ∧ ∀ o, ¬ c.frz b o

/-- worlds that differ in such blocks alone -/
structure Aside (c : Ctx) (H : Heap) (w w2 : World) : Prop where
  size : w2.heap.size = w.heap.size
  same : ∀ b : Nat, w2.heap[b]? = w.heap[b]? ∨ Spare c H b
  io : Outs w w2

theorem Aside.cell (h : Aside c H w w2) {b o : Nat} (hf : c.frz b o) : w2.cell? ⟨b, o, none⟩ = w.cell? ⟨b, o, none⟩ := by
  rcases h.same b with h1 | h1
  · exact cell_congr h1 o
  · exact absurd hf (h1.2 o)
theorem Aside.ob (h : Aside c H w w2) {t : Nat} {o : Ob} (ht : H[t]? = some o) (hn : o ≠ .hole) : w2.heap[c.ρ t]? = w.heap[c.ρ t]? := by
  rcases h.same (c.ρ t) with h1 | h1
  · exact h1
  · exact absurd rfl (h1.1 t o ht hn)
theorem Aside.pos (h : Aside c H w w2) {t : Nat} {ob : Ob} (ht : H[t]? = some ob) (hn : ob ≠ .hole) {p f n b o : Nat} (hp : Pos c w t p f n b o) : Pos c w2 t p f n b o :=
  ⟨hp.1.imp id fun hl i hi => ⟨(hl i hi).1, by rw [h.cell (hl i hi).1, cell_congr (h.ob ht hn)]; exact (hl i hi).2⟩, hp.2⟩
theorem Aside.own (h : Aside c H w w2) {t off len fin : Nat} {v : Value} (hv : ROwn c H w t off len fin v) : ROwn c H w2 t off len fin v := by
  obtain ⟨hsv, k, st, me, cs, h1, h2, h3⟩ := hv
  refine ⟨hsv, k, st, me, cs, h1, h2, fun hm => ?_⟩
  obtain ⟨b, o, cap, h4, h5, h6, h7, h8⟩ := h3 hm
  exact ⟨b, o, cap, h4, h5, h6, h.pos h1 (by simp) h7, fun hx => by rw [room_congr (h.ob h1 (by simp))]; exact h8 hx⟩
theorem Aside.ap (h : Aside c H w w2) {t off fin : Nat} {v : Value} (hv : RAp c H w t off fin v) : RAp c H w2 t off fin v := by
  obtain ⟨hsv, k, st, me, cs, h1, h2, h3⟩ := hv
  refine ⟨hsv, k, st, me, cs, h1, h2, fun hm => ?_⟩
  obtain ⟨b, o, h4, h7⟩ := h3 hm
  exact ⟨b, o, h4, h.pos h1 (by simp) h7⟩

mutual
theorem Aside.rv (h : Aside c H w w2) : ∀ (x : V) (v : Value), RV c H w x v → RV c H w2 x v
  | .junk, v, hv | .int _ _, v, hv | .bool _, v, hv | .str _, v, hv | .bp _ _, v, hv | .nilp, v, hv | .mp _, v, hv | .nilm, v, hv | .nilf, v, hv | .nili, v, hv => by simpa only [RV] using hv
  | .sl len full cs, v, hv => by
    simp only [RV] at hv ⊢
    obtain ⟨a, cap, h1, h2, h3, h4, h5⟩ := hv
    exact ⟨a, cap, h1, h2, h3, h4, fun x hx => ⟨(h5 x hx).1, Aside.rvat h x.block x.off cs (h5 x hx).2⟩⟩
  | .own t off len fin, v, hv => by simp only [RV] at hv ⊢; exact h.own hv
  | .fp cs, v, hv => by
    simp only [RV] at hv ⊢
    obtain ⟨b, o, h1, h2⟩ := hv
    exact ⟨b, o, h1, Aside.rvat h b o cs h2⟩
  | .ap t off fin, v, hv => by simp only [RV] at hv ⊢; exact h.ap hv
  | .fn f caps, v, hv => by
    simp only [RV] at hv ⊢
    obtain ⟨cv, h1, h2⟩ := hv
    exact ⟨cv, h1, Aside.rvs h caps _ h2⟩
  | .ifc t x, v, hv => by
    simp only [RV] at hv ⊢
    obtain ⟨y, h1, h2⟩ := hv
    exact ⟨y, h1, Aside.rv h x y h2⟩
  | .agg cs, v, hv => by
    simp only [RV] at hv ⊢
    obtain ⟨a, h1, h2⟩ := hv
    exact ⟨a, h1, Aside.rvs h cs _ h2⟩
  | .tup cs, v, hv => by
    simp only [RV] at hv ⊢
    obtain ⟨a, h1, h2⟩ := hv
    exact ⟨a, h1, Aside.rvs h cs _ h2⟩
theorem Aside.rvs (h : Aside c H w w2) : ∀ (xs : List V) (vs : List Value), RVs c H w xs vs → RVs c H w2 xs vs
  | [], vs, hv => by simpa only [RVs] using hv
  | x :: xs, vs, hv => by
    simp only [RVs] at hv ⊢
    obtain ⟨y, ys, h1, h2, h3⟩ := hv
    exact ⟨y, ys, h1, Aside.rv h x y h2, Aside.rvs h xs ys h3⟩
theorem Aside.rvat (h : Aside c H w w2) (b : Nat) : ∀ (o : Nat) (xs : List V), RVat c H w b o xs → RVat c H w2 b o xs
  | o, [], _ => by simp only [RVat]
  | o, x :: xs, hv => by
    simp only [RVat] at hv ⊢
    obtain ⟨h1, ⟨y, h2, h3⟩, h4⟩ := hv
    exact ⟨h1, ⟨y, by rw [h.cell h1]; exact h2, Aside.rv h x y h3⟩, Aside.rvat h b (o + 1) xs h4⟩
end

theorem Aside.rh (h : Aside c H w w2) (hh : RH c H w) : RH c H w2 := by
  refine ⟨hh.base, by rw [h.size]; exact hh.low, fun b o hx => by rw [h.size]; exact hh.fz b o hx, fun t o ht => ?_, hh.inj⟩
  have hr := hh.ob t o ht
  by_cases hn : o = .hole
  · subst hn; simp only [RO]
  have ho := h.ob ht hn
  cases o with
  | hole => exact absurd rfl hn
  | box cs =>
    simp only [RO, ho, h.size] at hr ⊢
    obtain ⟨h1, h2, h3, a, e, h4, h5⟩ := hr
    exact ⟨h1, h2, h3, a, e, h4, h.rvs _ _ h5⟩
  | arr k st me cs =>
    simp only [RO, ho, h.size] at hr ⊢
    obtain ⟨h1, h2, h3, h6, a, e, h4, h7, h5⟩ := hr
    exact ⟨h1, h2, h3, h6, a, e, h4, h7, h.rvs _ _ h5⟩
  | map es =>
    simp only [RO, ho, h.size] at hr ⊢
    obtain ⟨h1, h2, h3, a, e, h4, h7, h5⟩ := hr
    exact ⟨h1, h2, h3, a, e, h4, h7, fun i p q hp hq => ⟨h.rv _ _ (h5 i p q hp hq).1, h.rv _ _ (h5 i p q hp hq).2⟩⟩

/-- a step, and then something aside -/
theorem Evo.aside (h : Evo c c' H H' w w') (hs : Aside c' H' w' w2) (hh : RH c H w) (hold : ∀ b : Nat, b < w.heap.size → w2.heap[b]? = w'.heap[b]?) : Evo c c' H H' w w2 where
  base := h.base
  low := h.low
  old := fun b hb => (hold b (Nat.lt_of_lt_of_le hb hh.low)).trans (h.old b hb)
  frz := h.frz
  fresh := h.fresh
  cell := fun b o hb => (hs.cell (h.frz' hb)).trans (h.cell b o hb)
  size := by rw [hs.size]; exact h.size
  len := h.len
  box := h.box
  map := h.map
  own := fun t off len fin v hv => hs.own (h.own t off len fin v hv)
  ap := fun t off fin v hv => hs.ap (h.ap t off fin v hv)
  rest := fun b hb hn => (hold b hb).trans (h.rest b hb hn)
  place := h.place
  io := ⟨hs.io.1.trans h.io.1, hs.io.2.trans h.io.2⟩
  still := h.still

/-- blocks of which nothing is known are laid -/
theorem step_more (h : RH c H w) (hold : ∀ b : Nat, b < w.heap.size → w'.heap[b]? = w.heap[b]?) (hs : w.heap.size ≤ w'.heap.size) (hio : Outs w w' := by exact ⟨rfl, rfl⟩) : Evo c c H H w w' ∧ RH c H w' := by
  have hl : ∀ {b o}, c.frz b o → b < w.heap.size := fun hx => hx.elim (fun hx => Nat.lt_of_lt_of_le hx (Nat.le_trans h.base h.low)) fun hx => h.fz _ _ hx
  have hpos : ∀ t o', H[t]? = some o' → o' ≠ .hole → ∀ p f n b o, Pos c w t p f n b o → Pos c w' t p f n b o := by
    intro t o' ht hn p f n b o hp
    have hh := hold _ ((h.ob t o' ht).low hn).2
    exact ⟨hp.1.imp id fun hx i hi => ⟨(hx i hi).1, by rw [cell_congr (hold _ (hl (hx i hi).1)), cell_congr hh]; exact (hx i hi).2⟩, hp.2⟩
  have hev : Evo c c H H w w' := by
    refine ⟨rfl, rfl, fun b hb => hold b (Nat.lt_of_lt_of_le hb h.low), fun b o hx => hx, fun b o hx => .inl hx, fun b o hx => cell_congr (hold b (hl hx)) o, hs, Nat.le_refl _, fun t cs ht => ⟨⟨cs, ht⟩, rfl⟩, fun t cs ht => ⟨⟨cs, ht⟩, rfl⟩, ?_, ?_, fun b hb _ => hold b hb, fun t o ht hn => .inl ⟨o, ht, hn, rfl⟩, fun _ _ _ _ h => h, hio⟩
    · rintro t off len fin v ⟨h0, k, st, me, cs, h1, h2, h3⟩
      refine ⟨h0, k, st, me, cs, h1, h2, fun hm => ?_⟩
      obtain ⟨b, o, cap, h4, h5, h6, h7, h8⟩ := h3 hm
      exact ⟨b, o, cap, h4, h5, h6, hpos t _ h1 (by simp) _ _ _ _ _ h7, fun he => by rw [room_congr (hold _ ((h.ob t _ h1).low (by simp)).2)]; exact h8 he⟩
    · rintro t off fin v ⟨h0, k, st, me, cs, h1, h2, h3⟩
      refine ⟨h0, k, st, me, cs, h1, h2, fun hm => ?_⟩
      obtain ⟨b, o, h4, h7⟩ := h3 hm
      exact ⟨b, o, h4, hpos t _ h1 (by simp) _ _ _ _ _ h7⟩
  refine ⟨hev, h.base, Nat.le_trans h.low hs, fun b o hx => Nat.lt_of_lt_of_le (h.fz b o hx) hs, fun t o ht => ?_, h.inj⟩
  have hr := h.ob t o ht
  by_cases hn : o = .hole
  · subst hn; simp only [RO]
  have hh := hold _ ((h.ob t o ht).low hn).2
  cases o with
  | hole => exact absurd rfl hn
  | box cs =>
    simp only [RO] at hr ⊢
    obtain ⟨h1, h2, h3, a, e, h4, h5⟩ := hr
    exact ⟨h1, Nat.lt_of_lt_of_le h2 hs, h3, a, e, by rw [hh]; exact h4, hev.rvs _ _ h5⟩
  | arr k st me cs =>
    simp only [RO] at hr ⊢
    obtain ⟨h1, h2, h3, h6, a, e, h4, h7, h5⟩ := hr
    exact ⟨h1, Nat.lt_of_lt_of_le h2 hs, h3, h6, a, e, by rw [hh]; exact h4, h7, hev.rvs _ _ h5⟩
  | map es =>
    simp only [RO] at hr ⊢
    obtain ⟨h1, h2, h3, a, e, h4, h7, h5⟩ := hr
    exact ⟨h1, Nat.lt_of_lt_of_le h2 hs, h3, a, e, by rw [hh]; exact h4, h7, fun i p q hp hq => ⟨hev.rv _ _ (h5 i p q hp hq).1, hev.rv _ _ (h5 i p q hp hq).2⟩⟩

/-- a new block is spare, and stays so -/
theorem Spare.new (h : RH c H w) {b : Nat} (hb : w.heap.size ≤ b) : Spare c H b :=
  ⟨fun t o ht hn e => by have := ((h.ob t o ht).low hn).2; omega, fun o hx => by
    rcases hx with hx | hx
    · have := h.base; have := h.low; omega
    · have := h.fz _ _ hx; omega⟩
theorem Spare.evo (he : Evo c c' H H' w w') {b : Nat} (hs : Spare c H b) (hb : b < w.heap.size) : Spare c' H' b :=
  ⟨he.apart hb hs.1, fun o hx => by
    rcases hx with hx | hx
    · exact hs.2 o (.inl (by rw [← he.base]; exact hx))
    · exact hs.2 o (.inr (he.still b o hb hs.1 hx))⟩

/-- blocks of which nothing is known are laid, or turned -/
theorem aside_of {b : Nat} (h : Spare c H b) (hs : w2.heap.size = w.heap.size) (ho : ∀ k : Nat, k ≠ b → w2.heap[k]? = w.heap[k]?) (hio : Outs w w2 := by exact ⟨rfl, rfl⟩) : Aside c H w w2 :=
  ⟨hs, fun k => by
    by_cases hk : k = b
    · subst hk; exact .inr h
    · exact .inl (ho k hk), hio⟩
end Go.Av
