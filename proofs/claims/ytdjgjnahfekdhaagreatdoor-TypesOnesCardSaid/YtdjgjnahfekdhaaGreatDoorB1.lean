/- The evaluator without fuel, and the tables of the program. Conditions: none beyond the hypotheses of each theorem. -/
import Derived.Test.YtdjgjnahfekdhaaGreatDoorA5
import Derived.Test.YtdjgjnahfekdhaaGreatDoorA1
import Derived.Test.YtdjgjnahfekdhaaGreatDoorProg
import Derived.KernelRfl
set_option linter.unusedSectionVars false
set_option linter.unusedVariables false
set_option linter.unusedSimpArgs false
namespace Go.Av
variable {C : Cfg}

def EntLe (e1 e2 : Ent) : Prop := ∀ f args H x, e1 f args H = some x → e2 f args H = some x
def RecLe (A : FuncId → Code → Prop) (r1 r2 : FuncId → Rec) : Prop := ∀ f c σ x, A f c → r1 f c σ = some x → r2 f c σ = some x

theorem callF_le {e1 e2 : Ent} (h : EntLe e1 e2) {g : FuncId} {args : List V} {H : Heap} {x : OR} (hx : callF C e1 g args H = some x) : callF C e2 g args H = some x := by
  unfold callF at hx ⊢
  split at hx
  · rename_i hg
    rw [if_pos hg]
    split at hx
    · simp only [Option.bind_eq_some_iff] at hx ⊢
      obtain ⟨q, h1, h2⟩ := hx
      exact ⟨q, h _ _ _ _ h1, h2⟩
    · cases hx
  · rename_i hg
    rw [if_neg hg]
    split at hx
    · rename_i hk
      rw [if_pos hk]
      simp only [Option.map_eq_some_iff] at hx ⊢
      obtain ⟨q, h1, h2⟩ := hx
      exact ⟨q, h _ _ _ _ h1, h2⟩
    · rename_i hk
      rw [if_neg hk]
      split at hx
      · simp only [Option.bind_eq_some_iff] at hx ⊢
        obtain ⟨q, h1, h2⟩ := hx
        refine ⟨q, h _ _ _ _ h1, ?_⟩
        split at h2
        · exact h2
        · simp only [Option.map_eq_some_iff] at h2 ⊢
          obtain ⟨q2, h3, h4⟩ := h2
          exact ⟨q2, h _ _ _ _ h3, h4⟩
      · simp only [Option.bind_eq_some_iff] at hx ⊢
        obtain ⟨q, h1, h2⟩ := hx
        exact ⟨q, h _ _ _ _ h1, h2⟩

theorem runDsc_le {e1 e2 : Ent} (h : EntLe e1 e2) {H : Heap} {d : Dsc} {x : OR} (hx : runDsc C e1 H d = some x) : runDsc C e2 H d = some x := by
  cases d <;> first | exact hx | exact callF_le h hx

theorem evOps_le {e1 e2 : Ent} (h : EntLe e1 e2) {fid : FuncId} {draw : Bool} {ops : Array Oper} : ∀ {l : List Oper} {id : Nat} {σ : St} {x : Ex × St × List (Cls × Nat)},
    evOps C e1 fid draw ops id l σ = some x → evOps C e2 fid draw ops id l σ = some x
  | [], id, σ, x, hx => hx
  | o :: rest, id, σ, x, hx => by
    rw [evOps] at hx ⊢
    split at hx
    · rename_i hw
      rw [if_pos hw]
      split at hx
      · cases hx
      · rename_i r hr
        have hr2 : ((evDsc C fid o (ov σ.tm)).bind fun d => runDsc C e2 σ.H (atPlace draw o id d)) = some r := by
          simp only [Option.bind_eq_some_iff] at hr ⊢
          obtain ⟨d, h1, h2⟩ := hr
          exact ⟨d, h1, runDsc_le h h2⟩
        rw [hr2]
        simp only
        split at hx
        · rename_i hp; rw [if_pos hp]; exact hx
        · rename_i hp
          rw [if_neg hp]
          simp only [Option.map_eq_some_iff] at hx ⊢
          obtain ⟨q, h1, h2⟩ := hx
          exact ⟨q, evOps_le h h1, h2⟩
    · rename_i hw
      rw [if_neg hw]
      simp only [Option.map_eq_some_iff] at hx ⊢
      obtain ⟨q, h1, h2⟩ := hx
      exact ⟨q, evOps_le h h1, h2⟩

/-- codes of which a statement is made: closed under parts and bodies -/
structure Closed (C : Cfg) (A : FuncId → Code → Prop) : Prop where
  body : ∀ f fn c, C.F f = some fn → fn.body = some c → A f c
  seq : ∀ f a b, A f (.seq a b) → A f a ∧ A f b
  cond : ∀ f x a b, A f (.cond x a b) → A f a ∧ A f b
  block : ∀ f i b, A f (.block i b) → A f b
  loop : ∀ f b, A f (.loop b) → A f b
  range : ∀ f x p a b, A f (.rangeFunc x p a b) → A f a ∧ A f b

theorem Closed.all : Closed C fun _ _ => True := by constructor <;> intros <;> first | trivial | exact ⟨trivial, trivial⟩

theorem enter_le {A : FuncId → Code → Prop} (hA : Closed C A) {r1 r2 : FuncId → Rec} (h : RecLe A r1 r2) : EntLe (enter C r1) (enter C r2) := by
  intro f args H x hx
  unfold enter at hx ⊢
  split at hx
  · rename_i fn hf
    split at hx
    · rename_i c hc
      generalize { tm := args ++ List.replicate (fn.ntmps - args.length) .junk, H, dirty := [] : St } = σ0 at hx ⊢
      cases hq : r1 f c σ0 with
      | none => rw [hq] at hx; cases hx
      | some q => rw [hq] at hx; rw [h _ _ _ _ (hA.body f fn c hf hc) hq]; exact hx
    · cases hx
  · cases hx

theorem marks_le {r1 r2 : Rec} {p : Nat} {asg b : Code} {tm : List V} (ha : ∀ σ x, r1 asg σ = some x → r2 asg σ = some x) (hb : ∀ σ x, r1 b σ = some x → r2 b σ = some x) : ∀ (cs : List V) (i : Nat) (σ : St) (x : Ex × St),
    marks r1 p asg b tm cs i σ = some x → marks r2 p asg b tm cs i σ = some x
  | [], _, _, _, hx => hx
  | c :: cs, i, σ, x, hx => by
    cases c <;> first | (simp only [marks] at hx; cases hx; done) | skip
    rename_i v
    cases v with
    | false => simp only [marks] at hx ⊢; exact marks_le ha hb _ _ _ _ hx
    | true =>
      simp only [marks] at hx ⊢
      cases h1 : r1 asg { σ with tm := tm.set p (.int .i64 i) } with
      | none => rw [h1] at hx; cases hx
      | some q =>
        rw [h1] at hx; rw [ha _ _ h1]
        obtain ⟨e, σ1⟩ := q
        cases e <;> first | (cases hx; done) | skip
        simp only at hx ⊢
        cases h2 : r1 b σ1 with
        | none => rw [h2] at hx; cases hx
        | some q2 =>
          rw [h2] at hx; rw [hb _ _ h2]
          obtain ⟨e2, σ2⟩ := q2
          cases e2 <;> first | exact hx | skip
          exact marks_le ha hb _ _ _ _ hx

/-- one step, with the check of drawn regions left out where nothing writes and the code was looked at before -/
def stepS (C : Cfg) (G : FuncId → Bool) (rec : FuncId → Rec) (fid : FuncId) : Rec := fun c σ =>
  match c with
  | .region _ ops draw =>
    (evOps C (enter C rec) fid draw ops σ.H.length ops.toList { σ with H := holes draw ops σ.H }).bind fun q =>
      if draw = false ∨ (G fid = true ∧ q.1.isPanic = false ∧ q.2.2.all Cls.still = true) ∨ okDraw ops q.2.2 q.1.isPanic = true then some (q.1, q.2.1) else none
  | c => stepE C rec fid c σ

def evS (C : Cfg) (G : FuncId → Bool) : Nat → FuncId → Rec
  | 0 => fun _ _ _ => none
  | n + 1 => stepS C G (evS C G n)

variable {G : FuncId → Bool}

theorem stepE_le {A : FuncId → Code → Prop} (hA : Closed C A) {r1 r2 : FuncId → Rec} (h : RecLe A r1 r2) (hno : ∀ f i o d, A f (.region i o d) → ∀ σ x, stepE C r1 f (.region i o d) σ = some x → stepE C r2 f (.region i o d) σ = some x) : RecLe A (stepE C r1) (stepE C r2) := by
  intro f c σ x ha hx
  cases c with
  | region i o d => exact hno f i o d ha σ x hx
  | seq a b =>
    obtain ⟨h1, h2⟩ := hA.seq _ _ _ ha
    simp only [stepE] at hx ⊢
    cases hq : r1 f a σ with
    | none => rw [hq] at hx; cases hx
    | some q =>
      rw [hq] at hx; rw [h _ _ _ _ h1 hq]
      obtain ⟨e, σ1⟩ := q
      cases e <;> first | exact hx | exact h _ _ _ _ h2 hx
  | cond y a b =>
    obtain ⟨h1, h2⟩ := hA.cond _ _ _ _ ha
    simp only [stepE] at hx ⊢
    split at hx
    · exact h _ _ _ _ h1 hx
    · exact h _ _ _ _ h2 hx
    · cases hx
  | block i b =>
    have h1 := hA.block _ _ _ ha
    simp only [stepE] at hx ⊢
    cases hq : r1 f b σ with
    | none => rw [hq] at hx; cases hx
    | some q => rw [hq] at hx; rw [h _ _ _ _ h1 hq]; exact hx
  | loop b =>
    have h1 := hA.loop _ _ ha
    simp only [stepE] at hx ⊢
    cases hq : r1 f b σ with
    | none => rw [hq] at hx; cases hx
    | some q =>
      rw [hq] at hx; rw [h _ _ _ _ h1 hq]
      obtain ⟨e, σ1⟩ := q
      cases e <;> first | exact hx | exact h _ _ _ _ ha hx
  | rangeFunc y ps a b =>
    obtain ⟨h1, h2⟩ := hA.range _ _ _ _ _ ha
    simp only [stepE] at hx ⊢
    split at hx
    · split at hx
      · rename_i hg
        rw [if_pos hg]
        split at hx
        · split at hx
          · split at hx
            case isFalse => cases hx
            rename_i hlen
            rw [if_pos hlen]
            exact marks_le (fun σ x hx => h _ _ _ _ h1 hx) (fun σ x hx => h _ _ _ _ h2 hx) _ _ _ _ hx
          · cases hx
        · cases hx
      · cases hx
    · cases hx
  | _ => exact hx

theorem stepS_le {A : FuncId → Code → Prop} (hA : Closed C A) {r1 r2 : FuncId → Rec} (h : RecLe A r1 r2) : RecLe A (stepS C G r1) (stepS C G r2) := by
  intro f c σ x ha hx
  by_cases hr : ∃ i o d, c = .region i o d
  · obtain ⟨i, o, d, rfl⟩ := hr
    simp only [stepS, Option.bind_eq_some_iff] at hx ⊢
    obtain ⟨q, h1, h2⟩ := hx
    exact ⟨q, evOps_le (enter_le hA h) h1, h2⟩
  · have e1 : ∀ r, stepS C G r f c σ = stepE C r f c σ := by
      intro r
      cases c <;> first | rfl | exact absurd ⟨_, _, _, rfl⟩ hr
    rw [e1] at hx ⊢
    refine stepE_le (A := fun g d => A g d ∧ ¬ ∃ i o d', d = .region i o d' ∧ False) ?_ ?_ ?_ f c σ x ⟨ha, by simp⟩ hx
    · constructor
      · exact fun f fn c h1 h2 => ⟨hA.body f fn c h1 h2, by simp⟩
      · exact fun f a b h => ⟨⟨(hA.seq _ _ _ h.1).1, by simp⟩, ⟨(hA.seq _ _ _ h.1).2, by simp⟩⟩
      · exact fun f x a b h => ⟨⟨(hA.cond _ _ _ _ h.1).1, by simp⟩, ⟨(hA.cond _ _ _ _ h.1).2, by simp⟩⟩
      · exact fun f i b h => ⟨hA.block _ _ _ h.1, by simp⟩
      · exact fun f b h => ⟨hA.loop _ _ h.1, by simp⟩
      · exact fun f x p a b h => ⟨⟨(hA.range _ _ _ _ _ h.1).1, by simp⟩, ⟨(hA.range _ _ _ _ _ h.1).2, by simp⟩⟩
    · exact fun f c σ x h1 h2 => h f c σ x h1.1 h2
    · intro f' i o d ha' σ' x' hx'
      simp only [stepE, Option.bind_eq_some_iff] at hx' ⊢
      obtain ⟨q, h1, h2⟩ := hx'
      exact ⟨q, evOps_le (enter_le hA h) h1, h2⟩

theorem evS_succ : ∀ n, RecLe (fun _ _ => True) (evS C G n) (evS C G (n + 1))
  | 0 => fun _ _ _ _ _ h => by cases h
  | n + 1 => stepS_le Closed.all (evS_succ n)

theorem evS_mono {n m : Nat} (h : n ≤ m) : RecLe (fun _ _ => True) (evS C G n) (evS C G m) := by
  induction h with
  | refl => exact fun _ _ _ _ _ h => h
  | step h ih => exact fun f c σ x t hx => evS_succ _ f c σ x t (ih f c σ x t hx)

/-- the code of a function was looked at: its drawn regions come to the same in every order, as long as nothing writes -/
def okStill (ops : Array Oper) : Bool := okDraw ops (List.replicate ops.size (.pure, 0)) false
def statOk : Code → Bool
  | .region _ ops draw => !draw || okStill ops
  | .seq a b => statOk a && statOk b
  | .cond _ a b => statOk a && statOk b
  | .block _ b => statOk b
  | .loop b => statOk b
  | .rangeFunc _ _ a b => statOk a && statOk b
  | _ => true

theorem still_swaps : ∀ {p q : Cls × Nat}, Cls.still p = true → Cls.still q = true → Cls.swaps p q = true := by
  rintro ⟨p, a⟩ ⟨q, b⟩ h1 h2
  cases p <;> cases q <;> first | rfl | (simp [Cls.still] at h1; done) | (simp [Cls.still] at h2; done)

theorem evOps_len {ent : Ent} {fid : FuncId} {draw : Bool} {ops : Array Oper} : ∀ {l : List Oper} {id : Nat} {σ : St} {x : Ex × St × List (Cls × Nat)},
    evOps C ent fid draw ops id l σ = some x → x.1.isPanic = false → x.2.2.length = l.length
  | [], id, σ, x, hx, _ => by simp only [evOps, Option.some.injEq] at hx; subst hx; rfl
  | o :: rest, id, σ, x, hx, hp => by
    rw [evOps] at hx
    split at hx
    · split at hx
      · cases hx
      · split at hx
        · cases hx; simp [Ex.isPanic] at hp
        · simp only [Option.map_eq_some_iff] at hx
          obtain ⟨q, h1, rfl⟩ := hx
          simp [evOps_len h1 hp]
    · simp only [Option.map_eq_some_iff] at hx
      obtain ⟨q, h1, rfl⟩ := hx
      simp [evOps_len h1 hp]

theorem okDraw_still {ops : Array Oper} (h : okStill ops = true) {tr : List (Cls × Nat)} (hl : tr.length = ops.size) (hs : tr.all Cls.still = true) : okDraw ops tr false = true := by
  unfold okStill okDraw at h
  unfold okDraw
  simp only [Bool.and_eq_true, Bool.false_eq_true, if_false, List.length_replicate] at h ⊢
  obtain ⟨⟨⟨h1, h2⟩, h3⟩, h4⟩ := h
  refine ⟨⟨⟨?_, h2⟩, h3⟩, by simpa using hl⟩
  rw [List.all_eq_true] at h1 ⊢
  intro j hj
  rw [hl] at hj
  have := h1 j hj
  rw [List.all_eq_true] at this ⊢
  intro i hi
  have := this i hi
  unfold okPair at this ⊢
  rw [Bool.or_eq_true] at this ⊢
  rcases this with ha | ha
  · exact .inl ha
  · refine .inr ?_
    have hj' : j < tr.length := by rw [hl]; simpa using hj
    have hi' : i < tr.length := Nat.lt_trans (by simpa using hi) hj'
    have hj2 : j < ops.size := hl ▸ hj'
    have hi2 : i < ops.size := hl ▸ hi'
    rw [List.all_eq_true] at hs
    have s1 := hs tr[i] (List.getElem_mem hi')
    have s2 := hs tr[j] (List.getElem_mem hj')
    simp only [List.getElem?_replicate, hi2, hj2, if_true, Array.getElem?_eq_getElem hi2, Array.getElem?_eq_getElem hj2, Bool.and_eq_true] at ha
    simp only [Array.getElem?_eq_getElem hi2, Array.getElem?_eq_getElem hj2, List.getElem?_eq_getElem hi', List.getElem?_eq_getElem hj', Bool.and_eq_true]
    exact ⟨ha.1, still_swaps s1 s2⟩

def Looked (C : Cfg) (G : FuncId → Bool) : Prop := ∀ f fn c, G f = true → C.F f = some fn → fn.body = some c → statOk c = true

theorem Looked.closed (h : Looked C G) : Closed C fun f c => G f = true → statOk c = true := by
  constructor
  · exact fun f fn c h1 h2 hg => h f fn c hg h1 h2
  all_goals intros; simp_all [statOk]

theorem evS_ev (h : Looked C G) : ∀ n, RecLe (fun f c => G f = true → statOk c = true) (evS C G n) (ev C n)
  | 0 => fun _ _ _ _ _ h => by cases h
  | n + 1 => by
    intro f c σ x ha hx
    have hs := stepS_le h.closed (evS_ev h n) (G := G) f c σ x ha hx
    by_cases hr : ∃ i o d, c = .region i o d
    · obtain ⟨i, o, d, rfl⟩ := hr
      simp only [stepS, Option.bind_eq_some_iff] at hs
      obtain ⟨q, h1, h2⟩ := hs
      simp only [ev, stepE, Option.bind_eq_some_iff]
      refine ⟨q, h1, ?_⟩
      split at h2
      · rename_i hc
        rw [if_pos]
        · exact h2
        · rcases hc with hc | ⟨hg, hp, hst⟩ | hc
          · exact .inl hc
          · by_cases hd : d = false
            · exact .inl hd
            · right
              rw [hp]
              have := ha hg
              simp only [statOk, Bool.or_eq_true, Bool.not_eq_true'] at this
              exact okDraw_still (this.resolve_left hd) (by simpa using evOps_len h1 hp) hst
          · exact .inr hc
      · cases h2
    · have e1 : stepS C G (ev C n) f c σ = stepE C (ev C n) f c σ := by
        cases c <;> first | rfl | exact absurd ⟨_, _, _, rfl⟩ hr
      rw [e1] at hs
      exact hs
end Go.Av
namespace Go.Av
variable {C : Cfg} {G : FuncId → Bool}

open Classical in
/-- the evaluator without fuel -/
noncomputable def W (C : Cfg) (G : FuncId → Bool) : FuncId → Rec := fun f c σ => if h : ∃ n x, evS C G n f c σ = some x then some h.choose_spec.choose else none

theorem W_iff {f : FuncId} {c : Code} {σ : St} {x : Ex × St} : W C G f c σ = some x ↔ ∃ n, evS C G n f c σ = some x := by
  unfold W
  constructor
  · intro h
    split at h
    · rename_i hx
      exact ⟨hx.choose, by rw [hx.choose_spec.choose_spec]; exact h⟩
    · cases h
  · rintro ⟨n, hn⟩
    have hx : ∃ n x, evS C G n f c σ = some x := ⟨n, x, hn⟩
    rw [dif_pos hx]
    have h1 := hx.choose_spec.choose_spec
    have h2 := evS_mono (Nat.le_max_left hx.choose n) _ _ _ _ trivial h1
    have h3 := evS_mono (Nat.le_max_right hx.choose n) _ _ _ _ trivial hn
    rw [h2] at h3
    exact h3

structure EntLim (E : Nat → Ent) (Eω : Ent) : Prop where
  mono : ∀ n m, n ≤ m → EntLe (E n) (E m)
  lim : ∀ f a H x, Eω f a H = some x → ∃ n, E n f a H = some x

section
variable {E : Nat → Ent} {Eω : Ent}
theorem EntLim.two (h : EntLim E Eω) {n m : Nat} {P Q : Ent → Prop} (hP : ∀ e1 e2, EntLe e1 e2 → P e1 → P e2) (hQ : ∀ e1 e2, EntLe e1 e2 → Q e1 → Q e2) (p : P (E n)) (q : Q (E m)) : ∃ k, P (E k) ∧ Q (E k) :=
  ⟨max n m, hP _ _ (h.mono _ _ (Nat.le_max_left n m)) p, hQ _ _ (h.mono _ _ (Nat.le_max_right n m)) q⟩

theorem callF_lim (h : EntLim E Eω) {g : FuncId} {args : List V} {H : Heap} {x : OR} (hx : callF C Eω g args H = some x) : ∃ n, callF C (E n) g args H = some x := by
  unfold callF at hx
  split at hx
  · rename_i hg
    split at hx
    · simp only [Option.bind_eq_some_iff] at hx
      obtain ⟨q, h1, h2⟩ := hx
      obtain ⟨n, hn⟩ := h.lim _ _ _ _ h1
      refine ⟨n, ?_⟩
      unfold callF
      rw [if_pos hg]
      simp only [Option.bind_eq_some_iff]
      exact ⟨q, hn, h2⟩
    · cases hx
  · rename_i hg
    split at hx
    · rename_i hk
      simp only [Option.map_eq_some_iff] at hx
      obtain ⟨q, h1, h2⟩ := hx
      obtain ⟨n, hn⟩ := h.lim _ _ _ _ h1
      refine ⟨n, ?_⟩
      unfold callF
      rw [if_neg hg, if_pos hk]
      simp only [Option.map_eq_some_iff]
      exact ⟨q, hn, h2⟩
    · rename_i hk
      split at hx
      · rename_i args' ha
        simp only [Option.bind_eq_some_iff] at hx
        obtain ⟨q, h1, h2⟩ := hx
        obtain ⟨n, hn⟩ := h.lim _ _ _ _ h1
        split at h2
        · rename_i v hv
          refine ⟨n, ?_⟩
          unfold callF
          rw [if_neg hg, if_neg hk, ha]
          simp only [Option.bind_eq_some_iff]
          exact ⟨q, hn, by rw [hv]; exact h2⟩
        · rename_i hv
          simp only [Option.map_eq_some_iff] at h2
          obtain ⟨q2, h3, h4⟩ := h2
          obtain ⟨m, hm⟩ := h.lim _ _ _ _ h3
          obtain ⟨k, k1, k2⟩ := h.two (P := fun e => e g args' [] = some q) (Q := fun e => e g args H = some q2) (fun _ _ hl hp => hl _ _ _ _ hp) (fun _ _ hl hp => hl _ _ _ _ hp) hn hm
          refine ⟨k, ?_⟩
          unfold callF
          rw [if_neg hg, if_neg hk, ha]
          simp only [Option.bind_eq_some_iff]
          exact ⟨q, k1, by rw [hv]; simp only [Option.map_eq_some_iff]; exact ⟨q2, k2, h4⟩⟩
      · rename_i ha
        simp only [Option.bind_eq_some_iff] at hx
        obtain ⟨q, h1, h2⟩ := hx
        obtain ⟨n, hn⟩ := h.lim _ _ _ _ h1
        refine ⟨n, ?_⟩
        unfold callF
        rw [if_neg hg, if_neg hk, ha]
        simp only [Option.bind_eq_some_iff]
        exact ⟨q, hn, h2⟩

theorem runDsc_lim (h : EntLim E Eω) {H : Heap} {d : Dsc} {x : OR} (hx : runDsc C Eω H d = some x) : ∃ n, runDsc C (E n) H d = some x := by
  cases d <;> first | exact ⟨0, hx⟩ | exact callF_lim h hx

theorem evOps_lim (h : EntLim E Eω) {fid : FuncId} {draw : Bool} {ops : Array Oper} : ∀ {l : List Oper} {id : Nat} {σ : St} {x : Ex × St × List (Cls × Nat)},
    evOps C Eω fid draw ops id l σ = some x → ∃ n, evOps C (E n) fid draw ops id l σ = some x
  | [], id, σ, x, hx => ⟨0, hx⟩
  | o :: rest, id, σ, x, hx => by
    rw [evOps] at hx
    split at hx
    · rename_i hw
      split at hx
      · cases hx
      · rename_i r hr
        simp only [Option.bind_eq_some_iff] at hr
        obtain ⟨d, h1, h2⟩ := hr
        obtain ⟨n, hn⟩ := runDsc_lim h h2
        split at hx
        · rename_i hp
          refine ⟨n, ?_⟩
          rw [evOps, if_pos hw]
          rw [show ((evDsc C fid o (ov σ.tm)).bind fun d => runDsc C (E n) σ.H (atPlace draw o id d)) = some r from by rw [h1]; exact hn]
          simp only [if_pos hp]
          exact hx
        · rename_i hp
          simp only [Option.map_eq_some_iff] at hx
          obtain ⟨q, h3, h4⟩ := hx
          obtain ⟨m, hm⟩ := evOps_lim h h3
          obtain ⟨k, k1, k2⟩ := h.two (P := fun e => runDsc C e σ.H (atPlace draw o id d) = some r) (Q := fun e => evOps C e fid draw ops (if isAlloc o then id + 1 else id) rest ⟨putTm σ.tm o.dst r.v, r.H, r.cls.dirty ++ σ.dirty⟩ = some q)
            (fun _ _ hl hp => runDsc_le hl hp) (fun _ _ hl hp => evOps_le hl hp) hn hm
          refine ⟨k, ?_⟩
          rw [evOps, if_pos hw]
          rw [show ((evDsc C fid o (ov σ.tm)).bind fun d => runDsc C (E k) σ.H (atPlace draw o id d)) = some r from by rw [h1]; exact k1]
          simp only [if_neg hp]
          rw [k2]; exact congrArg some h4
    · rename_i hw
      simp only [Option.map_eq_some_iff] at hx
      obtain ⟨q, h3, h4⟩ := hx
      obtain ⟨m, hm⟩ := evOps_lim h h3
      refine ⟨m, ?_⟩
      rw [evOps, if_neg hw, hm]
      exact congrArg some h4
end

theorem W_two {f : FuncId} {c : Code} {σ : St} {x : Ex × St} {g : FuncId} {d : Code} {τ : St} {y : Ex × St} (h1 : W C G f c σ = some x) (h2 : W C G g d τ = some y) :
    ∃ n, evS C G n f c σ = some x ∧ evS C G n g d τ = some y := by
  obtain ⟨n, hn⟩ := W_iff.1 h1
  obtain ⟨m, hm⟩ := W_iff.1 h2
  exact ⟨max n m, evS_mono (Nat.le_max_left n m) _ _ _ _ trivial hn, evS_mono (Nat.le_max_right n m) _ _ _ _ trivial hm⟩

theorem enter_lim : EntLim (fun n => enter C (evS C G n)) (enter C (W C G)) where
  mono n m h := enter_le Closed.all (evS_mono h)
  lim f args H x hx := by
    unfold enter at hx
    split at hx
    · rename_i fn hf
      split at hx
      · rename_i c hc
        cases hq : W C G f c { tm := args ++ List.replicate (fn.ntmps - args.length) .junk, H, dirty := [] } with
        | none => rw [hq] at hx; cases hx
        | some q =>
          rw [hq] at hx
          obtain ⟨n, hn⟩ := W_iff.1 hq
          refine ⟨n, ?_⟩
          unfold enter
          simp only [hf, hc, hn]
          exact hx
      · cases hx
    · cases hx

theorem marks_lim {f : FuncId} {p : Nat} {asg b : Code} {tm : List V} : ∀ (cs : List V) (i : Nat) (σ : St) (x : Ex × St), marks (W C G f) p asg b tm cs i σ = some x → ∃ n, marks (evS C G n f) p asg b tm cs i σ = some x
  | [], _, _, _, hx => ⟨0, hx⟩
  | c :: cs, i, σ, x, hx => by
    cases c <;> first | (simp only [marks] at hx; cases hx; done) | skip
    rename_i v
    cases v with
    | false => simp only [marks] at hx ⊢; exact marks_lim _ _ _ _ hx
    | true =>
      simp only [marks] at hx ⊢
      cases h1 : W C G f asg { σ with tm := tm.set p (.int .i64 i) } with
      | none => rw [h1] at hx; cases hx
      | some q =>
        rw [h1] at hx
        obtain ⟨e, σ1⟩ := q
        cases e <;> first | (cases hx; done) | skip
        simp only at hx
        cases h2 : W C G f b σ1 with
        | none => rw [h2] at hx; cases hx
        | some q2 =>
          rw [h2] at hx
          obtain ⟨n, n1, n2⟩ := W_two h1 h2
          obtain ⟨e2, σ2⟩ := q2
          cases e2 <;> first | (refine ⟨n, ?_⟩; rw [n1]; simp only; rw [n2]; exact hx) | skip
          obtain ⟨m, hm⟩ := marks_lim _ _ _ _ hx
          refine ⟨max n m, ?_⟩
          rw [evS_mono (Nat.le_max_left n m) _ _ _ _ trivial n1]
          simp only
          rw [evS_mono (Nat.le_max_left n m) _ _ _ _ trivial n2]
          exact marks_le (fun σ x hx => evS_mono (Nat.le_max_right n m) _ _ _ _ trivial hx) (fun σ x hx => evS_mono (Nat.le_max_right n m) _ _ _ _ trivial hx) _ _ _ _ hm

theorem W_one {f : FuncId} {c : Code} {σ : St} {x : Ex × St} (hx : stepS C G (W C G) f c σ = some x) : W C G f c σ = some x := by
  rw [W_iff]
  suffices h : ∃ n, stepS C G (evS C G n) f c σ = some x by
    obtain ⟨n, hn⟩ := h
    exact ⟨n + 1, hn⟩
  cases c with
  | region i o d =>
    simp only [stepS, Option.bind_eq_some_iff] at hx ⊢
    obtain ⟨q, h1, h2⟩ := hx
    obtain ⟨n, hn⟩ := evOps_lim enter_lim h1
    exact ⟨n, q, hn, h2⟩
  | seq a b =>
    simp only [stepS, stepE] at hx ⊢
    cases hq : W C G f a σ with
    | none => rw [hq] at hx; cases hx
    | some q =>
      rw [hq] at hx
      obtain ⟨e, σ1⟩ := q
      cases e <;> first | (obtain ⟨n, hn⟩ := W_iff.1 hq; exact ⟨n, by rw [hn]; exact hx⟩) | skip
      obtain ⟨n, n1, n2⟩ := W_two hq hx
      exact ⟨n, by rw [n1]; exact n2⟩
  | cond y a b =>
    simp only [stepS, stepE] at hx ⊢
    split at hx
    · exact W_iff.1 hx
    · exact W_iff.1 hx
    · cases hx
  | block i b =>
    simp only [stepS, stepE] at hx ⊢
    cases hq : W C G f b σ with
    | none => rw [hq] at hx; cases hx
    | some q =>
      rw [hq] at hx
      obtain ⟨n, hn⟩ := W_iff.1 hq
      exact ⟨n, by rw [hn]; exact hx⟩
  | loop b =>
    simp only [stepS, stepE] at hx ⊢
    cases hq : W C G f b σ with
    | none => rw [hq] at hx; cases hx
    | some q =>
      rw [hq] at hx
      obtain ⟨e, σ1⟩ := q
      cases e <;> first | (obtain ⟨n, hn⟩ := W_iff.1 hq; exact ⟨n, by rw [hn]; exact hx⟩) | skip
      obtain ⟨n, n1, n2⟩ := W_two hq hx
      exact ⟨n, by rw [n1]; exact n2⟩
  | rangeFunc y ps a b =>
    simp only [stepS, stepE] at hx ⊢
    split at hx
    · split at hx
      · rename_i hg
        simp only [if_pos hg]
        split at hx
        · split at hx
          · split at hx
            case isFalse => cases hx
            rename_i hlen
            simp only [if_pos hlen]
            exact marks_lim _ _ _ _ hx
          · cases hx
        · cases hx
      · cases hx
    · cases hx
  | _ => exact ⟨0, hx⟩

theorem evS_W (n : Nat) : RecLe (fun _ _ => True) (evS C G n) (W C G) := fun _ _ _ _ _ h => W_iff.2 ⟨n, h⟩

/-- THE LIMIT IS A FIXED POINT -/
theorem W_eq : W C G = stepS C G (W C G) := by
  funext f c σ
  cases h : stepS C G (W C G) f c σ with
  | some x => exact W_one h
  | none =>
    cases h2 : W C G f c σ with
    | none => rfl
    | some x =>
      obtain ⟨n, hn⟩ := W_iff.1 h2
      have := evS_succ n f c σ x trivial hn
      have := stepS_le (G := G) Closed.all (evS_W n) f c σ x trivial this
      rw [h] at this; cases this

/-- what the limit says of a call, the evaluator says -/
theorem W_enter (hL : Looked C G) {f : FuncId} {args : List V} {H : Heap} {x : CR} (h : enter C (W C G) f args H = some x) : ∃ n, enter C (ev C n) f args H = some x := by
  obtain ⟨n, hn⟩ := enter_lim.lim f args H x h
  exact ⟨n, enter_le hL.closed (evS_ev hL n) f args H x hn⟩
end Go.Av
namespace Go.Av

/-- variables in a tree -/
inductive En where
  | nil
  | tip (a : V)
  | bin (l r : En)
def En.get : En → Nat → Option V
  | .nil, _ => none
  | .tip a, n => match n with
    | 0 => some a
    | _ + 1 => none
  | .bin l r, n => match n % 2 with
    | 0 => l.get (n / 2)
    | _ + 1 => r.get (n / 2)
def En.put : En → Nat → V → En
  | .nil, _, _ => .nil
  | .tip a, n, v => match n with
    | 0 => .tip v
    | _ + 1 => .tip a
  | .bin l r, n, v => match n % 2 with
    | 0 => .bin (l.put (n / 2) v) r
    | _ + 1 => .bin l (r.put (n / 2) v)
def En.mk : Nat → Nat → En
  | 0, n => match n with
    | 0 => .nil
    | _ + 1 => .tip .junk
  | d + 1, n => .bin (En.mk d ((n + 1) / 2)) (En.mk d (n / 2))
def En.puts : En → Nat → List V → En
  | e, _, [] => e
  | e, n, v :: vs => (e.put n v).puts (n + 1) vs
def deep (n : Nat) : Nat := if n ≤ 16 then 4 else if n ≤ 64 then 6 else if n ≤ 256 then 8 else n

theorem En.get_put : ∀ (e : En) (n : Nat) (v : V) (t : Nat), (e.put n v).get t = if t = n then (e.get t).map (fun _ => v) else e.get t
  | .nil, n, v, t => by simp [En.put, En.get]
  | .tip a, n, v, t => by
    cases n <;> cases t <;> simp [En.put, En.get]
  | .bin l r, n, v, t => by
    have hl := En.get_put l (n / 2) v (t / 2)
    have hr := En.get_put r (n / 2) v (t / 2)
    rcases Nat.mod_two_eq_zero_or_one n with h1 | h1 <;> rcases Nat.mod_two_eq_zero_or_one t with h2 | h2 <;> simp only [En.put, En.get, h1, h2]
    · rw [hl]
      by_cases h : t = n
      · subst h; simp
      · rw [if_neg h, if_neg (by omega)]
    · rw [if_neg (by omega)]
    · rw [if_neg (by omega)]
    · rw [hr]
      by_cases h : t = n
      · subst h; simp
      · rw [if_neg h, if_neg (by omega)]

theorem En.get_mk : ∀ (d n t : Nat), n ≤ 2 ^ d → (En.mk d n).get t = if t < n then some .junk else none
  | 0, n, t, h => by
    have : n = 0 ∨ n = 1 := by simp at h; omega
    rcases this with rfl | rfl
    · simp [En.mk, En.get]
    · cases t <;> simp [En.mk, En.get]
  | d + 1, n, t, h => by
    have hl := En.get_mk d ((n + 1) / 2) (t / 2) (by rw [Nat.pow_succ] at h; omega)
    have hr := En.get_mk d (n / 2) (t / 2) (by rw [Nat.pow_succ] at h; omega)
    rcases Nat.mod_two_eq_zero_or_one t with h2 | h2 <;> simp only [En.mk, En.get, h2]
    · rw [hl]
      by_cases h3 : t < n
      · rw [if_pos h3, if_pos (by omega)]
      · rw [if_neg h3, if_neg (by omega)]
    · rw [hr]
      by_cases h3 : t < n
      · rw [if_pos h3, if_pos (by omega)]
      · rw [if_neg h3, if_neg (by omega)]

theorem En.get_puts : ∀ (vs : List V) (e : En) (k t : Nat), (e.puts k vs).get t = if k ≤ t ∧ t < k + vs.length then (e.get t).bind (fun _ => vs[t - k]?) else e.get t
  | [], e, k, t => by simp only [En.puts, List.length_nil]; rw [if_neg (by omega)]
  | v :: vs, e, k, t => by
    simp only [En.puts]
    rw [En.get_puts vs, En.get_put]
    simp only [List.length_cons]
    by_cases h1 : t = k
    · subst h1
      rw [if_neg (by omega), if_pos rfl, if_pos (by omega)]
      cases e.get t <;> simp
    · rw [if_neg h1]
      by_cases h2 : k + 1 ≤ t ∧ t < k + 1 + vs.length
      · rw [if_pos h2, if_pos (by omega), show t - k = (t - (k + 1)) + 1 by omega]; rfl
      · rw [if_neg h2, if_neg (by omega)]

theorem le_deep (n : Nat) : n ≤ 2 ^ deep n := by
  unfold deep
  split
  · simpa
  · split
    · simpa
    · split
      · simpa
      · exact Nat.le_of_lt Nat.lt_two_pow_self

def startK (n : Nat) (args : List V) : En := (En.mk (deep (max n args.length)) (max n args.length)).puts 0 args

theorem get_start (n : Nat) (args : List V) (t : Nat) : (startK n args).get t = (args ++ List.replicate (n - args.length) .junk)[t]? := by
  unfold startK
  rw [En.get_puts, En.get_mk _ _ _ (le_deep _), List.getElem?_append]
  by_cases h : t < args.length
  · rw [if_pos (by omega), if_pos (by omega), if_pos h]; simp
  · rw [if_neg (by omega), if_neg h, List.getElem?_replicate]
    by_cases h2 : t < n
    · rw [if_pos (by omega), if_pos (by omega)]
    · rw [if_neg (by omega), if_neg (by omega)]

structure StK where
  tm : En
  H : Heap
  dirty : List Nat
abbrev RecK := Code → StK → Option (Ex × StK)
abbrev Memo := FuncId → List V → Heap → Option CR

def ovK (tm : En) : Operand → Option V
  | .tmp t => tm.get t
  | .const v => ofVal v
  | .func f => some (.fn f [])
  | .global _ => none

def readResK (C : Cfg) (tm : En) (H : Heap) : ResultVar → Option V
  | .tmp t => tm.get t
  | .cell a t => (C.T t).bind fun i => (tm.get a).bind fun v => partH i H v

def resultsK (C : Cfg) (f : Func) (σ : StK) : Option V :=
  match f.results.toList with
  | [r] => readResK C σ.tm σ.H r
  | rs => (rs.mapM (readResK C σ.tm σ.H)).map .tup

def enterK (C : Cfg) (M : Memo) (rec : FuncId → RecK) : Ent := fun f args H =>
  match M f args H with
  | some r => some r
  | none => match C.F f with
    | some fn => match fn.body with
      | some c => match rec f c { tm := startK fn.ntmps args, H, dirty := [] } with
        | some (.panic v, σ) => some ⟨v, true, σ.H, σ.dirty⟩
        | some (.normal, σ) | some (.ret, σ) => (resultsK C fn σ).map fun v => ⟨v, false, σ.H, σ.dirty⟩
        | _ => none
      | none => none
    | none => none

def putTmK (tm : En) (d : Option Nat) (v : V) : En := match d with | some d => tm.put d v | none => tm

def yldK (ops : Array Oper) (tm : En) (j : Nat) : Option Bool :=
  match ((ops[j]?).bind (·.dst)).bind (tm.get ·) with
  | some (.bool b) => some b
  | _ => none

def evOpsK (C : Cfg) (ent : Ent) (fid : FuncId) (draw : Bool) (ops : Array Oper) : Nat → List Oper → StK → Option (Ex × StK × List (Cls × Nat))
  | _, [], σ => some (.normal, σ, [])
  | id, o :: rest, σ =>
    if Region.wanted o (yldK ops σ.tm) then
      match (evDsc C fid o (ovK σ.tm)).bind fun d => runDsc C ent σ.H (atPlace draw o id d) with
      | none => none
      | some r => if r.pan then some (.panic r.v, ⟨σ.tm, r.H, r.cls.dirty ++ σ.dirty⟩, [(r.cls, σ.H.length)]) else
        (evOpsK C ent fid draw ops (if isAlloc o then id + 1 else id) rest ⟨putTmK σ.tm o.dst r.v, r.H, r.cls.dirty ++ σ.dirty⟩).map fun q => (q.1, q.2.1, (r.cls, σ.H.length) :: q.2.2)
    else (evOpsK C ent fid draw ops (if isAlloc o then id + 1 else id) rest { σ with tm := putTmK σ.tm o.dst .junk }).map fun q => (q.1, q.2.1, (.pure, σ.H.length) :: q.2.2)

def marksK (rec : RecK) (p : Nat) (asg b : Code) (tm : En) : List V → Nat → StK → Option (Ex × StK)
  | [], _, σ => some (.normal, { σ with tm := tm })
  | .bool true :: cs, i, σ =>
    match rec asg { σ with tm := tm.put p (.int .i64 i) } with
    | some (.normal, σ) => match rec b σ with
      | some (.normal, σ) => marksK rec p asg b tm cs (i + 1) σ
      | some (.ret, σ) => some (.ret, { σ with tm := tm })
      | some (.exit id, σ) => some (.exit id, { σ with tm := tm })
      | _ => none
    | _ => none
  | .bool false :: cs, i, σ => marksK rec p asg b tm cs (i + 1) σ
  | _, _, _ => none

def stepK (C : Cfg) (G : FuncId → Bool) (M : Memo) (rec : FuncId → RecK) (fid : FuncId) : RecK := fun c σ =>
  match c with
  | .skip => some (.normal, σ)
  | .region _ ops draw =>
    (evOpsK C (enterK C M rec) fid draw ops σ.H.length ops.toList { σ with H := holes draw ops σ.H }).bind fun q =>
      if draw = false ∨ (G fid = true ∧ q.1.isPanic = false ∧ q.2.2.all Cls.still = true) ∨ okDraw ops q.2.2 q.1.isPanic = true then some (q.1, q.2.1) else none
  | .seq a b => match rec fid a σ with
    | some (.normal, σ) => rec fid b σ
    | r => r
  | .cond x a b => match ovK σ.tm x with
    | some (.bool true) => rec fid a σ
    | some (.bool false) => rec fid b σ
    | _ => none
  | .block id b => match rec fid b σ with
    | some (.exit i, σ) => if i = id then some (.normal, σ) else some (.exit i, σ)
    | r => r
  | .loop b => match rec fid b σ with
    | some (.normal, σ) => rec fid (.loop b) σ
    | r => r
  | .exit id => some (.exit id, σ)
  | .ret => some (.ret, σ)
  | .rangeFunc f ps asg b => match ovK σ.tm f, ps.toList with
    | some (.fn g [.bp t 0]), [p] =>
      if g = C.marked ∧ noRange asg = true ∧ noRange b = true then match σ.H[t]? with
        | some (.box [l]) => match strip σ.H 0 true sf l with
          | some (.sl n _ cs) => if cs.length = n ∧ n ≤ roomy then marksK (rec fid) p asg b σ.tm cs 0 σ else none
          | _ => none
        | _ => none
      else none
    | _, _ => none
  | _ => none

def evK (C : Cfg) (G : FuncId → Bool) (M : Memo) : Nat → FuncId → RecK
  | 0 => fun _ _ _ => none
  | n + 1 => stepK C G M (evK C G M n)

/-- the same state -/
structure Like (σk : StK) (σ : St) : Prop where
  tm : ∀ t, σk.tm.get t = σ.tm[t]?
  H : σk.H = σ.H
  dirty : σk.dirty = σ.dirty

variable {C : Cfg} {G : FuncId → Bool} {M : Memo}

theorem ovK_eq {e : En} {tm : List V} (h : ∀ t, e.get t = tm[t]?) : ovK e = ov tm := by
  funext x; cases x <;> simp only [ovK, ov]; exact h _
theorem yldK_eq {e : En} {tm : List V} (h : ∀ t, e.get t = tm[t]?) (ops : Array Oper) : yldK ops e = yld ops tm := by
  funext j
  unfold yldK yld
  rw [show (fun x => e.get x) = fun x => tm[x]? from funext h]
  rfl
theorem readResK_eq {e : En} {tm : List V} (h : ∀ t, e.get t = tm[t]?) (H : Heap) : readResK C e H = readRes C tm H := by
  funext r; cases r <;> simp only [readResK, readRes, h]
theorem Like.results {σk : StK} {σ : St} (h : Like σk σ) (f : Func) : resultsK C f σk = results C f σ := by
  unfold resultsK Go.Av.results
  rw [readResK_eq h.tm, h.H]
  rfl
theorem Like.put {e : En} {tm : List V} (h : ∀ t, e.get t = tm[t]?) (d : Option Nat) (v : V) : ∀ t, (putTmK e d v).get t = (putTm tm d v)[t]? := by
  intro t
  cases d with
  | none => exact h t
  | some d =>
    simp only [putTmK, putTm, En.get_put, List.getElem?_set, h]
    by_cases ht : t = d
    · subst ht
      simp only [if_true]
      by_cases hl : t < tm.length
      · simp [hl]
      · simp [hl]
    · rw [if_neg ht, if_neg (Ne.symm ht)]

/-- what the closed evaluator says, the limit says -/
def KOk (C : Cfg) (G : FuncId → Bool) (r : FuncId → RecK) : Prop := ∀ f c σk σ ex σk', Like σk σ → r f c σk = some (ex, σk') → ∃ σ', W C G f c σ = some (ex, σ') ∧ Like σk' σ'

theorem enterK_le (hM : ∀ f args H r, M f args H = some r → enter C (W C G) f args H = some r) {r : FuncId → RecK} (hr : KOk C G r) : EntLe (enterK C M r) (enter C (W C G)) := by
  intro f args H x hx
  unfold enterK at hx
  split at hx
  · rename_i q hq
    rw [hM _ _ _ _ hq]; exact hx
  · unfold enter
    split at hx
    · rename_i fn hf
      split at hx
      · rename_i c hc
        cases hq : r f c { tm := startK fn.ntmps args, H, dirty := [] } with
        | none => rw [hq] at hx; cases hx
        | some q =>
          obtain ⟨ex, σk'⟩ := q
          obtain ⟨σ', h1, h2⟩ := hr f c _ { tm := args ++ List.replicate (fn.ntmps - args.length) .junk, H, dirty := [] } ex σk' ⟨get_start _ _, rfl, rfl⟩ hq
          rw [hq] at hx
          rw [hf]; simp only [hc, h1]
          cases ex <;> simp only at hx ⊢ <;> first | (rw [h2.results] at hx; rw [← h2.H, ← h2.dirty]; exact hx) | (rw [← h2.H, ← h2.dirty]; exact hx) | exact hx
      · cases hx
    · cases hx

theorem evOpsK_le {e1 e2 : Ent} (h : EntLe e1 e2) {fid : FuncId} {draw : Bool} {ops : Array Oper} : ∀ {l : List Oper} {id : Nat} {σk : StK} {σ : St} {ex : Ex} {σk' : StK} {tr : List (Cls × Nat)}, Like σk σ →
    evOpsK C e1 fid draw ops id l σk = some (ex, σk', tr) → ∃ σ', evOps C e2 fid draw ops id l σ = some (ex, σ', tr) ∧ Like σk' σ'
  | [], id, σk, σ, ex, σk', tr, hl, hx => by
    simp only [evOpsK, Option.some.injEq, Prod.mk.injEq] at hx
    obtain ⟨rfl, rfl, rfl⟩ := hx
    exact ⟨σ, rfl, hl⟩
  | o :: rest, id, σk, σ, ex, σk', tr, hl, hx => by
    rw [evOpsK] at hx
    rw [evOps]
    rw [yldK_eq hl.tm, ovK_eq hl.tm, hl.H, hl.dirty] at hx
    split at hx
    · rename_i hw
      rw [if_pos hw]
      split at hx
      · cases hx
      · rename_i r hr
        have hr2 : ((evDsc C fid o (ov σ.tm)).bind fun d => runDsc C e2 σ.H (atPlace draw o id d)) = some r := by
          simp only [Option.bind_eq_some_iff] at hr ⊢
          obtain ⟨d, h1, h2⟩ := hr
          exact ⟨d, h1, runDsc_le h h2⟩
        rw [hr2]
        simp only
        split at hx
        · rename_i hp
          rw [if_pos hp]
          simp only [Option.some.injEq, Prod.mk.injEq] at hx
          obtain ⟨rfl, rfl, rfl⟩ := hx
          exact ⟨_, rfl, ⟨hl.tm, rfl, rfl⟩⟩
        · rename_i hp
          rw [if_neg hp]
          simp only [Option.map_eq_some_iff] at hx
          obtain ⟨⟨a1, a2, a3⟩, h1, h2⟩ := hx
          simp only [Prod.mk.injEq] at h2
          obtain ⟨rfl, rfl, rfl⟩ := h2
          obtain ⟨σ', h3, h4⟩ := evOpsK_le h (σk := ⟨putTmK σk.tm o.dst r.v, r.H, r.cls.dirty ++ σ.dirty⟩) (σ := ⟨putTm σ.tm o.dst r.v, r.H, r.cls.dirty ++ σ.dirty⟩) ⟨Like.put hl.tm _ _, rfl, rfl⟩ h1
          rw [h3]
          exact ⟨σ', rfl, h4⟩
    · rename_i hw
      rw [if_neg hw]
      simp only [Option.map_eq_some_iff] at hx
      obtain ⟨⟨a1, a2, a3⟩, h1, h2⟩ := hx
      simp only [Prod.mk.injEq] at h2
      obtain ⟨rfl, rfl, rfl⟩ := h2
      obtain ⟨σ', h3, h4⟩ := evOpsK_le h (σk := ⟨putTmK σk.tm o.dst .junk, σ.H, σ.dirty⟩) (σ := { σ with tm := putTm σ.tm o.dst .junk }) ⟨Like.put hl.tm _ _, rfl, rfl⟩ h1
      rw [h3]
      exact ⟨σ', rfl, h4⟩

theorem marksK_le {r : FuncId → RecK} (hr : KOk C G r) {f : FuncId} {p : Nat} {asg b : Code} {e : En} {tm : List V} (he : ∀ t, e.get t = tm[t]?) : ∀ (cs : List V) (i : Nat) (σk : StK) (σ : St) (ex : Ex) (σk' : StK), Like σk σ →
    marksK (r f) p asg b e cs i σk = some (ex, σk') → ∃ σ', marks (W C G f) p asg b tm cs i σ = some (ex, σ') ∧ Like σk' σ'
  | [], _, σk, σ, ex, σk', hl, hx => by
    simp only [marksK, Option.some.injEq, Prod.mk.injEq] at hx
    obtain ⟨rfl, rfl⟩ := hx
    exact ⟨_, rfl, ⟨he, hl.H, hl.dirty⟩⟩
  | c :: cs, i, σk, σ, ex, σk', hl, hx => by
    cases c <;> first | (simp only [marksK] at hx; cases hx; done) | skip
    rename_i v
    cases v with
    | false => simp only [marksK] at hx; simp only [marks]; exact marksK_le hr he _ _ _ _ _ _ hl hx
    | true =>
      simp only [marksK] at hx
      simp only [marks]
      cases h1 : r f asg { σk with tm := e.put p (.int .i64 i) } with
      | none => rw [h1] at hx; cases hx
      | some q =>
        rw [h1] at hx
        obtain ⟨e1, σ1⟩ := q
        cases e1 <;> first | (cases hx; done) | skip
        simp only at hx
        obtain ⟨τ1, g1, l1⟩ := hr _ _ { σk with tm := e.put p (.int .i64 i) } { σ with tm := tm.set p (.int .i64 i) } _ _ ⟨Like.put he (some p) _, hl.H, hl.dirty⟩ h1
        rw [g1]; simp only
        cases h2 : r f b σ1 with
        | none => rw [h2] at hx; cases hx
        | some q2 =>
          rw [h2] at hx
          obtain ⟨e2, σ2⟩ := q2
          obtain ⟨τ2, g2, l2⟩ := hr _ _ _ _ _ _ l1 h2
          rw [g2]
          cases e2 <;> simp only at hx ⊢ <;> first | exact marksK_le hr he _ _ _ _ _ _ l2 hx | (cases hx; done) | (simp only [Option.some.injEq, Prod.mk.injEq] at hx; obtain ⟨rfl, rfl⟩ := hx; exact ⟨_, rfl, ⟨he, l2.H, l2.dirty⟩⟩)

theorem stepK_ok (hM : ∀ f args H r, M f args H = some r → enter C (W C G) f args H = some r) {r : FuncId → RecK} (hr : KOk C G r) : KOk C G (stepK C G M r) := by
  intro f c σk σ ex σk' hl hx
  rw [W_eq]
  cases c with
  | region i o d =>
    simp only [stepK, Option.bind_eq_some_iff] at hx
    simp only [stepS]
    obtain ⟨⟨a1, a2, a3⟩, h1, h2⟩ := hx
    rw [hl.H] at h1
    obtain ⟨σ', h3, h4⟩ := evOpsK_le (enterK_le hM hr) (σk := ⟨σk.tm, holes d o σ.H, σk.dirty⟩) (σ := { σ with H := holes d o σ.H }) ⟨hl.tm, rfl, hl.dirty⟩ h1
    rw [h3]
    simp only [Option.bind_some]
    split at h2
    · rename_i hc
      rw [if_pos hc]
      simp only [Option.some.injEq, Prod.mk.injEq] at h2
      obtain ⟨rfl, rfl⟩ := h2
      exact ⟨_, rfl, h4⟩
    · cases h2
  | seq a b =>
    simp only [stepK] at hx
    simp only [stepS, stepE]
    cases hq : r f a σk with
    | none => rw [hq] at hx; cases hx
    | some q =>
      rw [hq] at hx
      obtain ⟨e, σ1⟩ := q
      obtain ⟨τ, g1, l1⟩ := hr _ _ _ _ _ _ hl hq
      rw [g1]
      cases e <;> simp only at hx ⊢ <;> first | exact hr _ _ _ _ _ _ l1 hx | (simp only [Option.some.injEq, Prod.mk.injEq] at hx; obtain ⟨rfl, rfl⟩ := hx; exact ⟨_, rfl, l1⟩)
  | cond y a b =>
    simp only [stepK] at hx
    simp only [stepS, stepE]
    rw [ovK_eq hl.tm] at hx
    split at hx
    · rename_i ho; rw [ho]; exact hr _ _ _ _ _ _ hl hx
    · rename_i ho; rw [ho]; exact hr _ _ _ _ _ _ hl hx
    · cases hx
  | block i b =>
    simp only [stepK] at hx
    simp only [stepS, stepE]
    cases hq : r f b σk with
    | none => rw [hq] at hx; cases hx
    | some q =>
      rw [hq] at hx
      obtain ⟨e, σ1⟩ := q
      obtain ⟨τ, g1, l1⟩ := hr _ _ _ _ _ _ hl hq
      rw [g1]
      cases e <;> simp only at hx ⊢ <;> first
        | (simp only [Option.some.injEq, Prod.mk.injEq] at hx; obtain ⟨rfl, rfl⟩ := hx; exact ⟨_, rfl, l1⟩)
        | (split at hx <;> rename_i hi <;> simp only [Option.some.injEq, Prod.mk.injEq] at hx <;> obtain ⟨rfl, rfl⟩ := hx
           · rw [if_pos hi]; exact ⟨_, rfl, l1⟩
           · rw [if_neg hi]; exact ⟨_, rfl, l1⟩)
  | loop b =>
    simp only [stepK] at hx
    simp only [stepS, stepE]
    cases hq : r f b σk with
    | none => rw [hq] at hx; cases hx
    | some q =>
      rw [hq] at hx
      obtain ⟨e, σ1⟩ := q
      obtain ⟨τ, g1, l1⟩ := hr _ _ _ _ _ _ hl hq
      rw [g1]
      cases e <;> simp only at hx ⊢ <;> first | exact hr _ _ _ _ _ _ l1 hx | (simp only [Option.some.injEq, Prod.mk.injEq] at hx; obtain ⟨rfl, rfl⟩ := hx; exact ⟨_, rfl, l1⟩)
  | rangeFunc y ps a b =>
    simp only [stepK] at hx
    simp only [stepS, stepE]
    rw [ovK_eq hl.tm, hl.H] at hx
    split at hx
    · rename_i h1 h2
      rw [h1, h2]
      simp only
      split at hx
      · rename_i hg
        rw [if_pos hg]
        split at hx
        · rename_i h5
          rw [h5]
          simp only
          split at hx
          · rename_i h6
            rw [h6]
            simp only
            split at hx
            case isFalse => cases hx
            rename_i hlen
            rw [if_pos hlen]
            exact marksK_le hr hl.tm _ _ _ _ _ _ hl hx
          · cases hx
        · cases hx
      · cases hx
    · cases hx
  | skip => simp only [stepK, Option.some.injEq, Prod.mk.injEq] at hx; obtain ⟨rfl, rfl⟩ := hx; exact ⟨σ, rfl, hl⟩
  | exit i => simp only [stepK, Option.some.injEq, Prod.mk.injEq] at hx; obtain ⟨rfl, rfl⟩ := hx; exact ⟨σ, rfl, hl⟩
  | ret => simp only [stepK, Option.some.injEq, Prod.mk.injEq] at hx; obtain ⟨rfl, rfl⟩ := hx; exact ⟨σ, rfl, hl⟩
  | _ => simp only [stepK] at hx; cases hx

theorem evK_ok (hM : ∀ f args H r, M f args H = some r → enter C (W C G) f args H = some r) : ∀ n, KOk C G (evK C G M n)
  | 0 => fun _ _ _ _ _ _ _ h => by cases h
  | n + 1 => stepK_ok hM (evK_ok hM n)

theorem enterK_W (hM : ∀ f args H r, M f args H = some r → enter C (W C G) f args H = some r) (n : Nat) : EntLe (enterK C M (evK C G M n)) (enter C (W C G)) := enterK_le hM (evK_ok hM n)

/- equality of values, reckoned -/
mutual
def V.beq : V → V → Bool
  | .junk, .junk => true
  | .int k n, .int j m => decide (k = j) && decide (n = m)
  | .bool a, .bool b => decide (a = b)
  | .str a, .str b => decide (a.data.toList = b.data.toList)
  | .sl n f cs, .sl m g ds => Nat.beq n m && (decide (f = g) && V.beqs cs ds)
  | .own t o l f, .own t' o' l' f' => Nat.beq t t' && (Nat.beq o o' && (Nat.beq l l' && Nat.beq f f'))
  | .fp cs, .fp ds => V.beqs cs ds
  | .bp t o, .bp t' o' => Nat.beq t t' && Nat.beq o o'
  | .ap t o f, .ap t' o' f' => Nat.beq t t' && (Nat.beq o o' && Nat.beq f f')
  | .nilp, .nilp => true
  | .mp t, .mp u => Nat.beq t u
  | .nilm, .nilm => true
  | .fn f cs, .fn g ds => Nat.beq f g && V.beqs cs ds
  | .nilf, .nilf => true
  | .ifc t v, .ifc u w => Nat.beq t u && V.beq v w
  | .nili, .nili => true
  | .agg cs, .agg ds => V.beqs cs ds
  | .tup cs, .tup ds => V.beqs cs ds
  | _, _ => false
def V.beqs : List V → List V → Bool
  | [], [] => true
  | x :: xs, y :: ys => V.beq x y && V.beqs xs ys
  | _, _ => false
end
mutual
theorem V.beq_eq : ∀ {a b : V}, V.beq a b = true → a = b
  | .str ⟨⟨a⟩⟩, b, h => by cases b <;> simp [V.beq] at h; rename_i s; obtain ⟨⟨b⟩⟩ := s; simp_all
  | .int _ _, b, h | .bool _, b, h | .own _ _ _ _, b, h | .bp _ _, b, h | .ap _ _ _, b, h | .mp _, b, h | .junk, b, h | .nilp, b, h | .nilm, b, h | .nilf, b, h | .nili, b, h => by
    cases b <;> simp [V.beq] at h <;> simp_all
  | .sl _ _ cs, b, h => by cases b <;> simp [V.beq] at h; rename_i n f ds; rw [V.beqs_eq h.2.2, h.1, h.2.1]
  | .fp cs, b, h => by cases b <;> simp [V.beq] at h; rw [V.beqs_eq h]
  | .fn _ cs, b, h => by cases b <;> simp [V.beq] at h; rw [V.beqs_eq h.2, h.1]
  | .ifc _ v, b, h => by cases b <;> simp [V.beq] at h; rw [V.beq_eq h.2, h.1]
  | .agg cs, b, h => by cases b <;> simp [V.beq] at h; rw [V.beqs_eq h]
  | .tup cs, b, h => by cases b <;> simp [V.beq] at h; rw [V.beqs_eq h]
theorem V.beqs_eq : ∀ {a b : List V}, V.beqs a b = true → a = b
  | [], b, h => by cases b <;> simp [V.beqs] at h; rfl
  | x :: xs, b, h => by cases b <;> simp [V.beqs] at h; rw [V.beq_eq h.1, V.beqs_eq h.2]
end

def Ob.beq : Ob → Ob → Bool
  | .box a, .box b => V.beqs a b
  | .arr k s m a, .arr k' s' m' b => Nat.beq k k' && (decide (s = s') && (Nat.beq m m' && V.beqs a b))
  | .map a, .map b => V.beqs (a.map (·.1)) (b.map (·.1)) && V.beqs (a.map (·.2)) (b.map (·.2))
  | .hole, .hole => true
  | _, _ => false
theorem pairs_ext : ∀ {a b : List (V × V)}, a.map (·.1) = b.map (·.1) → a.map (·.2) = b.map (·.2) → a = b
  | [], [], _, _ => rfl
  | [], _ :: _, h, _ => by simp at h
  | _ :: _, [], h, _ => by simp at h
  | (a1, a2) :: a, (b1, b2) :: b, h1, h2 => by
    simp only [List.map_cons, List.cons.injEq] at h1 h2
    rw [h1.1, h2.1, pairs_ext h1.2 h2.2]
theorem Ob.beq_eq : ∀ {a b : Ob}, Ob.beq a b = true → a = b := by
  intro a b h
  cases a <;> cases b <;> simp [Ob.beq] at h
  · rw [V.beqs_eq h]
  · rw [h.1, h.2.1, h.2.2.1, V.beqs_eq h.2.2.2]
  · rw [pairs_ext (V.beqs_eq h.1) (V.beqs_eq h.2)]
  · rfl
def hbeq : Heap → Heap → Bool
  | [], [] => true
  | x :: xs, y :: ys => Ob.beq x y && hbeq xs ys
  | _, _ => false
theorem hbeq_eq : ∀ {a b : Heap}, hbeq a b = true → a = b
  | [], [], _ => rfl
  | [], _ :: _, h => by simp [hbeq] at h
  | _ :: _, [], h => by simp [hbeq] at h
  | x :: xs, y :: ys, h => by simp only [hbeq, Bool.and_eq_true] at h; rw [Ob.beq_eq h.1, hbeq_eq h.2]

/-- a call that is known -/
structure Known where
  f : FuncId
  args : List V
  H : Heap
  r : CR
def memoOf : List Known → Memo
  | [], _, _, _ => none
  | k :: ks, f, args, H => match Nat.beq k.f f && (V.beqs k.args args && hbeq k.H H) with
    | true => some k.r
    | false => memoOf ks f args H
theorem memoOf_ok : ∀ {l : List Known}, (∀ k, k ∈ l → enter C (W C G) k.f k.args k.H = some k.r) → ∀ f args H r, memoOf l f args H = some r → enter C (W C G) f args H = some r
  | [], _, f, args, H, r, h => by cases h
  | k :: ks, hk, f, args, H, r, h => by
    simp only [memoOf] at h
    split at h
    · rename_i hb
      simp only [Bool.and_eq_true] at hb
      cases h
      rw [← hk k (by simp), Nat.eq_of_beq_eq_true hb.1, V.beqs_eq hb.2.1, hbeq_eq hb.2.2]
    · exact memoOf_ok (fun k hk' => hk k (by simp [hk'])) f args H r h
end Go.Av
namespace Go.Av

/-- a number in decimal -/
def decF : Nat → Nat → List UInt8 → List UInt8
  | 0, _, acc => acc
  | f + 1, m, acc => if m < 10 then UInt8.ofNat (48 + m) :: acc else decF f (m / 10) (UInt8.ofNat (48 + m % 10) :: acc)
def dec (n : Int) : List UInt8 := if n < 0 then 45 :: decF 20 n.natAbs [] else decF 20 n.natAbs []

def bytes (l : List UInt8) : ByteArray := ⟨l.toArray⟩

/-- types.key -/
def keyL : List V → Option (List UInt8)
  | [] => some []
  | .int .i64 n :: vs => if 0 ≤ n ∧ n < 100 then (keyL vs).map fun r => dec n ++ (44 :: r) else none
  | _ => none

/-- a list in pieces -/
def pieces (k : Nat) : Nat → List V → List (List V)
  | 0, _ => []
  | n + 1, l => l.take k :: pieces k n (l.drop k)

def catM : List (Option (List UInt8)) → Option (List UInt8)
  | [] => some []
  | x :: xs => x.bind fun a => (catM xs).map fun b => a ++ b

/-- types.text's inner function -/
def putL : Nat → List V → Option (List UInt8)
  | 0, _ => none
  | f + 1, [.int k0 k, .int k1 n, .sl len _ cs] => (keyL [.int k0 k, .int k1 n, .int .i64 len]).bind fun h => (catM ((pieces 3 len cs).map (putL f))).map fun r => h ++ r
  | _, _ => none

/-- types.text -/
def textL : List V → Option (List UInt8)
  | .sl nv _ vs :: .sl nc _ cs :: r => if vs.length = nv ∧ r.length = 6 then (keyL vs).bind fun h => (putL 300 (r.take 3)).bind fun a => (putL 300 (r.drop 3)).bind fun b =>
      (catM ((pieces 3 (2 * nc) cs).map (putL 300))).map fun d => h ++ (a ++ (b ++ d)) else none
  | _ => none

def isNameB (s : ByteArray) : Bool := decide (1 ≤ s.size) && decide (s.size ≤ 32) && s.data.toList.all fun c => decide (33 ≤ c.toNat) && decide (c.toNat ≤ 126) && decide (c.toNat ≠ 40) && decide (c.toNat ≠ 41) && decide (c.toNat ≠ 44)

def idxB (c : UInt8) : List UInt8 → Int → Int
  | [], _ => -1
  | x :: l, i => if x == c then i else idxB c l (i + 1)

def viaSl (f : List V → Option V) : V → Option Dsc
  | .sl n _ cs => if cs.length = n then (f cs).map .val else none
  | .own t off len fin => some (.read t fun o => (arrCells off len fin o).bind fun p => if p.2.length = len then f p.2 else none)
  | _ => none

/-- a text that has room -/
def fits (l : List UInt8) : Option V := if l.length ≤ 140737488355328 then some (.str (bytes l)) else none

def pure1 (f : List V → Option (List UInt8)) (a : V) : Option Dsc := (strip [] 0 true sf a).bind fun a => match a with
  | .agg cs => (f cs).bind fun l => (fits l).map .val
  | _ => none

def isI : V → Bool
  | .int .i64 _ => true
  | _ => false
def isS : V → Bool
  | .str _ => true
  | _ => false

def primIsName : List V → Option Dsc
  | [.str s] => some (.val (.bool (isNameB s)))
  | _ => none
def primKey : List V → Option Dsc
  | [a] => viaSl (fun cs => (keyL cs).bind fits) a
  | _ => none
def primText : List V → Option Dsc
  | [a] => pure1 textL a
  | _ => none
def primCount : List V → Option Dsc
  | [.str s, .str t] => match t.data.toList with
    | [c] => some (.val (.int .i64 (s.data.toList.count c)))
    | _ => none
  | _ => none
def primContains : List V → Option Dsc
  | [.str s, .str t] => match t.data.toList with
    | [c] => some (.val (.bool (s.data.toList.contains c)))
    | _ => none
  | _ => none
def primIndexByte : List V → Option Dsc
  | [.str s, .int .u8 c] => some (.val (.int .i64 (idxB (UInt8.ofNat c.toNat) s.data.toList 0)))
  | _ => none
def primClone (ok : V → Bool) (bytes : Nat) : List V → Option Dsc
  | [.sl n _ cs] => if n = 0 then some (.val (.sl 0 true [])) else if cs.length = n ∧ n * bytes ≤ 140737488355328 ∧ cs.all ok then some (.new (.arr 1 false 0 cs) fun id => .own id 0 n n) else none
  | [.own t off n fin] => if n = 0 then none else some (.newFrom t (fun o => (arrCells off n fin o).bind fun p => if p.1 = 1 ∧ n * bytes ≤ 140737488355328 ∧ p.2.all ok then some (.arr 1 false 0 p.2) else none) fun id => .own id 0 n n)
  | _ => none
/-- slices.Repeat of one number -/
def primRepeat : List V → Option Dsc
  | [.sl 1 _ [.int .i64 v], .int .i64 c] => if 1 ≤ c ∧ c ≤ 1000 then some (.new (.arr 1 true 0 (rep [.int .i64 v] c.toNat)) fun id => .own id 0 c.toNat c.toNat) else none
  | _ => none
/-- keys that Go's maps take -/
def keyCell (T : TypeId → Option TI) (t : TypeId) (v : V) : Bool :=
  match (T t).map (fun (i : TI) => i.d), v with
  | some (.int q), .int q' n => decide (q = q') && decide (q.wrap n = n)
  | some .str, .str s => decide (s.size ≤ 140737488351232)
  | some .bool, .bool _ => true
  | _, _ => false
def keyedOf (T : TypeId → Option TI) (t : TypeId) (v : V) : Bool :=
  match (T t).map (fun (i : TI) => i.d), v with
  | some (.struct fs), .agg cs => decide (fs.length = cs.length) && (fs.zip cs).all fun p => keyCell T p.1.2 p.2
  | _, _ => keyCell T t v
end Go.Av
namespace Go.Av
inductive Tr (α : Type) where
  | nil
  | tip (a : α)
  | bin (l r : Tr α)
def Tr.get {α : Type} : Tr α → Nat → Option α
  | .nil, _ => none
  | .tip a, n => match n with
    | 0 => some a
    | _ + 1 => none
  | .bin l r, n => match n % 2 with
    | 0 => l.get (n / 2)
    | _ + 1 => r.get (n / 2)
def Tr.Fa {α : Type} (p : Nat → α → Prop) : Tr α → Nat → Nat → Prop
  | .nil, _, _ => True
  | .tip a, o, _ => p o a
  | .bin l r, o, s => Tr.Fa p l o (2 * s) ∧ Tr.Fa p r (o + s) (2 * s)
theorem Tr.Fa.get {α : Type} {p : Nat → α → Prop} : ∀ {t : Tr α} {o s n : Nat} {a : α}, Tr.Fa p t o s → t.get n = some a → p (o + s * n) a
  | .nil, _, _, _, _, _, h => by cases h
  | .tip b, o, s, n, a, hf, h => by
    cases n with
    | zero => simp only [Tr.get, Option.some.injEq] at h; subst h; simpa [Tr.Fa] using hf
    | succ n => cases h
  | .bin l r, o, s, n, a, hf, h => by
    simp only [Tr.get] at h
    rcases Nat.mod_two_eq_zero_or_one n with h1 | h1 <;> rw [h1] at h <;> simp only at h
    · have := Tr.Fa.get hf.1 h
      rwa [Nat.mul_comm 2 s, Nat.mul_assoc, show 2 * (n / 2) = n by omega] at this
    · have := Tr.Fa.get hf.2 h
      rwa [Nat.mul_comm 2 s, Nat.mul_assoc, show o + s + s * (2 * (n / 2)) = o + s * n by
        rw [show s * n = s * (2 * (n / 2) + 1) by rw [show 2 * (n / 2) + 1 = n by omega], Nat.mul_add]; omega] at this

def ti1 : TI := ⟨false, 1, 8, [.nilf], .func⟩
def ti2 : TI := ⟨false, 1, 8, [.int .i64 0], (.int .i64)⟩
def ti3 : TI := ⟨false, 1, 8, [.int .i64 0], (.int .i64)⟩
def ti4 : TI := ⟨false, 1, 1, [.bool false], .bool⟩
def ti5 : TI := ⟨false, 1, 1, [.int .u8 0], (.int .u8)⟩
def ti6 : TI := ⟨false, 1, 1, [.int .u8 0], (.int .u8)⟩
def ti7 : TI := ⟨true, 4, 24, [.int .i64 0, .int .i64 0, .bool false, .int .u8 0], (.struct [(0, 2), (1, 3), (2, 4), (3, 6)])⟩
def ti8 : TI := ⟨true, 4, 24, [.int .i64 0, .int .i64 0, .bool false, .int .u8 0], (.struct [(0, 2), (1, 3), (2, 4), (3, 6)])⟩
def ti9 : TI := ⟨false, 1, 16, [.str ⟨#[]⟩], .str⟩
def ti10 : TI := ⟨false, 1, 16, [.str ⟨#[]⟩], .str⟩
def ti11 : TI := ⟨false, 1, 16, [.str ⟨#[]⟩], .str⟩
def ti12 : TI := ⟨false, 1, 8, [.int .u64 0], (.int .u64)⟩
def ti13 : TI := ⟨true, 2, 24, [.str ⟨#[]⟩, .int .u64 0], (.struct [(0, 9), (1, 12)])⟩
def ti14 : TI := ⟨true, 2, 24, [.str ⟨#[]⟩, .int .u64 0], (.struct [(0, 9), (1, 12)])⟩
def ti15 : TI := ⟨false, 1, 8, [.nilp], .ptr⟩
def ti16 : TI := ⟨false, 1, 8, [.nilp], .ptr⟩
def ti17 : TI := ⟨false, 1, 8, [.nilp], .ptr⟩
def ti18 : TI := ⟨true, 1, 8, [.nilp], (.struct [(0, 17)])⟩
def ti19 : TI := ⟨true, 1, 8, [.nilp], (.struct [(0, 17)])⟩
def ti20 : TI := ⟨false, 1, 16, [.nili], .iface⟩
def ti21 : TI := ⟨false, 1, 4, [.int .i32 0], (.int .i32)⟩
def ti22 : TI := ⟨false, 1, 24, [.sl 0 true []], (.slice 48)⟩
def ti23 : TI := ⟨false, 1, 8, [.nilf], .func⟩
def ti24 : TI := ⟨false, 1, 8, [.nilf], .func⟩
def ti25 : TI := ⟨false, 1, 8, [.int .i64 0], (.int .i64)⟩
def ti26 : TI := ⟨false, 1, 8, [.nilf], .func⟩
def ti27 : TI := ⟨false, 1, 24, [.sl 0 true []], (.slice 3)⟩
def ti28 : TI := ⟨false, 1, 24, [.sl 0 true []], (.slice 9)⟩
def ti29 : TI := ⟨false, 1, 24, [.sl 0 true []], (.slice 51)⟩
def ti30 : TI := ⟨true, 2, 48, [.sl 0 true [], .sl 0 true []], (.struct [(0, 28), (1, 29)])⟩
def ti31 : TI := ⟨true, 2, 48, [.sl 0 true [], .sl 0 true []], (.struct [(0, 28), (1, 29)])⟩
def ti32 : TI := ⟨false, 1, 24, [.sl 0 true []], (.slice 64)⟩
def ti33 : TI := ⟨true, 3, 72, [.sl 0 true [], .sl 0 true [], .sl 0 true []], (.struct [(0, 31), (2, 32)])⟩
def ti34 : TI := ⟨true, 3, 72, [.sl 0 true [], .sl 0 true [], .sl 0 true []], (.struct [(0, 31), (2, 32)])⟩
def ti35 : TI := ⟨false, 1, 24, [.sl 0 true []], (.slice 4)⟩
def ti36 : TI := ⟨true, 6, 144, [.sl 0 true [], .sl 0 true [], .sl 0 true [], .sl 0 true [], .sl 0 true [], .sl 0 true []], (.struct [(0, 34), (3, 35), (4, 35), (5, 35)])⟩
def ti37 : TI := ⟨true, 6, 144, [.sl 0 true [], .sl 0 true [], .sl 0 true [], .sl 0 true [], .sl 0 true [], .sl 0 true []], (.struct [(0, 34), (3, 35), (4, 35), (5, 35)])⟩
def ti39 : TI := ⟨false, 1, 8, [.nilf], .func⟩
def ti40 : TI := ⟨true, 2, 48, [.sl 0 true [], .sl 0 true []], (.struct [(0, 27), (1, 27)])⟩
def ti41 : TI := ⟨true, 2, 48, [.sl 0 true [], .sl 0 true []], (.struct [(0, 27), (1, 27)])⟩
def ti43 : TI := ⟨false, 1, 8, [.nilf], .func⟩
def ti44 : TI := ⟨false, 1, 8, [.nilf], .func⟩
def ti45 : TI := ⟨false, 1, 8, [.nilf], .func⟩
def ti46 : TI := ⟨false, 1, 8, [.nilf], .func⟩
def ti47 : TI := ⟨true, 13, 288, [.str ⟨#[]⟩, .int .i64 0, .sl 0 true [], .sl 0 true [], .sl 0 true [], .sl 0 true [], .sl 0 true [], .sl 0 true [], .sl 0 true [], .sl 0 true [], .sl 0 true [], .sl 0 true [], .sl 0 true []], (.struct [(0, 9), (1, 3), (2, 27), (3, 34), (6, 34), (9, 28), (10, 28), (11, 27), (12, 27)])⟩
def ti48 : TI := ⟨true, 13, 288, [.str ⟨#[]⟩, .int .i64 0, .sl 0 true [], .sl 0 true [], .sl 0 true [], .sl 0 true [], .sl 0 true [], .sl 0 true [], .sl 0 true [], .sl 0 true [], .sl 0 true [], .sl 0 true [], .sl 0 true []], (.struct [(0, 9), (1, 3), (2, 27), (3, 34), (6, 34), (9, 28), (10, 28), (11, 27), (12, 27)])⟩
def ti49 : TI := ⟨false, 1, 8, [.nilf], .func⟩
def ti50 : TI := ⟨true, 3, 48, [.str ⟨#[]⟩, .sl 0 true [], .int .i64 0], (.struct [(0, 9), (1, 27), (2, 3)])⟩
def ti51 : TI := ⟨true, 3, 48, [.str ⟨#[]⟩, .sl 0 true [], .int .i64 0], (.struct [(0, 9), (1, 27), (2, 3)])⟩
def ti52 : TI := ⟨false, 1, 8, [.nilf], .func⟩
def ti53 : TI := ⟨false, 1, 24, [.sl 0 true []], (.slice 66)⟩
def ti55 : TI := ⟨false, 1, 8, [.nilf], .func⟩
def ti57 : TI := ⟨false, 1, 8, [.nilf], .func⟩
def ti58 : TI := ⟨false, 1, 8, [.nilf], .func⟩
def ti59 : TI := ⟨false, 1, 24, [.sl 0 true []], (.slice 170)⟩
def ti60 : TI := ⟨false, 1, 24, [.sl 0 true []], (.slice 62)⟩
def ti61 : TI := ⟨true, 3, 40, [.int .i64 0, .int .i64 0, .sl 0 true []], (.struct [(0, 3), (1, 3), (2, 60)])⟩
def ti62 : TI := ⟨true, 3, 40, [.int .i64 0, .int .i64 0, .sl 0 true []], (.struct [(0, 3), (1, 3), (2, 60)])⟩
def ti63 : TI := ⟨true, 8, 128, [.sl 0 true [], .sl 0 true [], .int .i64 0, .int .i64 0, .sl 0 true [], .int .i64 0, .int .i64 0, .sl 0 true []], (.struct [(0, 27), (1, 59), (2, 62), (5, 62)])⟩
def ti64 : TI := ⟨true, 8, 128, [.sl 0 true [], .sl 0 true [], .int .i64 0, .int .i64 0, .sl 0 true [], .int .i64 0, .int .i64 0, .sl 0 true []], (.struct [(0, 27), (1, 59), (2, 62), (5, 62)])⟩
def ti65 : TI := ⟨true, 9, 136, [.int .i64 0, .sl 0 true [], .sl 0 true [], .int .i64 0, .int .i64 0, .sl 0 true [], .int .i64 0, .int .i64 0, .sl 0 true []], (.struct [(0, 3), (1, 64)])⟩
def ti66 : TI := ⟨true, 9, 136, [.int .i64 0, .sl 0 true [], .sl 0 true [], .int .i64 0, .int .i64 0, .sl 0 true [], .int .i64 0, .int .i64 0, .sl 0 true []], (.struct [(0, 3), (1, 64)])⟩
def ti67 : TI := ⟨false, 1, 8, [.nilf], .func⟩
def ti68 : TI := ⟨false, 1, 8, [.nilf], .func⟩
def ti69 : TI := ⟨false, 1, 8, [.nilf], .func⟩
def ti70 : TI := ⟨false, 1, 8, [.nilf], .func⟩
def ti72 : TI := ⟨false, 1, 8, [.nilf], .func⟩
def ti74 : TI := ⟨false, 1, 8, [.nilf], .func⟩
def ti75 : TI := ⟨false, 1, 8, [.nilf], .func⟩
def ti76 : TI := ⟨false, 1, 8, [.nilf], .func⟩
def ti77 : TI := ⟨false, 1, 8, [.nilf], .func⟩
def ti78 : TI := ⟨false, 1, 24, [.sl 0 true []], (.slice 37)⟩
def ti80 : TI := ⟨false, 1, 8, [.nilf], .func⟩
def ti81 : TI := ⟨false, 1, 8, [.nilf], .func⟩
def ti82 : TI := ⟨false, 1, 8, [.nilf], .func⟩
def ti83 : TI := ⟨false, 1, 8, [.nilf], .func⟩
def ti84 : TI := ⟨false, 1, 8, [.nilf], .func⟩
def ti85 : TI := ⟨false, 1, 8, [.nilf], .func⟩
def ti86 : TI := ⟨false, 1, 8, [.nilf], .func⟩
def ti87 : TI := ⟨false, 1, 8, [.nilf], .func⟩
def ti88 : TI := ⟨false, 1, 8, [.nilf], .func⟩
def ti89 : TI := ⟨false, 1, 8, [.nilf], .func⟩
def ti90 : TI := ⟨false, 1, 8, [.nilf], .func⟩
def ti91 : TI := ⟨false, 1, 8, [.nilf], .func⟩
def ti92 : TI := ⟨false, 1, 8, [.nilf], .func⟩
def ti93 : TI := ⟨true, 10, 240, [.sl 0 true [], .sl 0 true [], .sl 0 true [], .sl 0 true [], .sl 0 true [], .sl 0 true [], .sl 0 true [], .sl 0 true [], .sl 0 true [], .sl 0 true []], (.struct [(0, 31), (2, 31), (4, 31), (6, 41), (8, 41)])⟩
def ti94 : TI := ⟨true, 10, 240, [.sl 0 true [], .sl 0 true [], .sl 0 true [], .sl 0 true [], .sl 0 true [], .sl 0 true [], .sl 0 true [], .sl 0 true [], .sl 0 true [], .sl 0 true []], (.struct [(0, 31), (2, 31), (4, 31), (6, 41), (8, 41)])⟩
def ti96 : TI := ⟨false, 1, 8, [.nilf], .func⟩
def ti97 : TI := ⟨false, 1, 8, [.nilf], .func⟩
def ti99 : TI := ⟨false, 1, 8, [.nilf], .func⟩
def ti100 : TI := ⟨false, 1, 8, [.nilf], .func⟩
def ti101 : TI := ⟨false, 1, 8, [.nilf], .func⟩
def ti102 : TI := ⟨false, 1, 8, [.nilf], .func⟩
def ti104 : TI := ⟨false, 1, 8, [.nilf], .func⟩
def ti105 : TI := ⟨false, 1, 8, [.nilf], .func⟩
def ti106 : TI := ⟨false, 1, 8, [.nilf], .func⟩
def ti107 : TI := ⟨false, 1, 8, [.nilf], .func⟩
def ti108 : TI := ⟨false, 1, 8, [.nilf], .func⟩
def ti109 : TI := ⟨false, 1, 8, [.nilf], .func⟩
def ti110 : TI := ⟨false, 1, 8, [.nilf], .func⟩
def ti111 : TI := ⟨false, 1, 8, [.nilf], .func⟩
def ti112 : TI := ⟨false, 1, 8, [.nilf], .func⟩
def ti113 : TI := ⟨false, 1, 8, [.nilf], .func⟩
def ti114 : TI := ⟨false, 1, 8, [.nilf], .func⟩
def ti115 : TI := ⟨false, 1, 8, [.nilf], .func⟩
def ti116 : TI := ⟨false, 1, 8, [.nilf], .func⟩
def ti117 : TI := ⟨false, 1, 8, [.nilf], .func⟩
def ti118 : TI := ⟨false, 1, 8, [.nilf], .func⟩
def ti119 : TI := ⟨false, 1, 8, [.nilf], .func⟩
def ti120 : TI := ⟨false, 1, 8, [.nilf], .func⟩
def ti121 : TI := ⟨false, 1, 24, [.sl 0 true []], (.slice 129)⟩
def ti123 : TI := ⟨false, 1, 8, [.nilf], .func⟩
def ti124 : TI := ⟨false, 1, 24, [.sl 0 true []], (.slice 135)⟩
def ti126 : TI := ⟨false, 1, 8, [.nilf], .func⟩
def ti127 : TI := ⟨false, 1, 24, [.sl 0 true []], (.slice 41)⟩
def ti128 : TI := ⟨true, 9, 200, [.sl 0 true [], .sl 0 true [], .sl 0 true [], .sl 0 true [], .sl 0 true [], .sl 0 true [], .sl 0 true [], .sl 0 true [], .bool false], (.struct [(0, 37), (6, 127), (7, 53), (8, 4)])⟩
def ti129 : TI := ⟨true, 9, 200, [.sl 0 true [], .sl 0 true [], .sl 0 true [], .sl 0 true [], .sl 0 true [], .sl 0 true [], .sl 0 true [], .sl 0 true [], .bool false], (.struct [(0, 37), (6, 127), (7, 53), (8, 4)])⟩
def ti131 : TI := ⟨false, 1, 8, [.nilf], .func⟩
def ti132 : TI := ⟨false, 1, 8, [.nilf], .func⟩
def ti133 : TI := ⟨false, 1, 8, [.nilf], .func⟩
def ti134 : TI := ⟨true, 9, 200, [.sl 0 true [], .sl 0 true [], .sl 0 true [], .sl 0 true [], .sl 0 true [], .sl 0 true [], .sl 0 true [], .sl 0 true [], .bool false], (.struct [(0, 37), (6, 127), (7, 32), (8, 4)])⟩
def ti135 : TI := ⟨true, 9, 200, [.sl 0 true [], .sl 0 true [], .sl 0 true [], .sl 0 true [], .sl 0 true [], .sl 0 true [], .sl 0 true [], .sl 0 true [], .bool false], (.struct [(0, 37), (6, 127), (7, 32), (8, 4)])⟩
def ti136 : TI := ⟨false, 1, 8, [.nilf], .func⟩
def ti137 : TI := ⟨false, 1, 8, [.nilf], .func⟩
def ti138 : TI := ⟨false, 1, 8, [.nilf], .func⟩
def ti139 : TI := ⟨false, 1, 8, [.nilf], .func⟩
def ti140 : TI := ⟨false, 1, 8, [.nilf], .func⟩
def ti141 : TI := ⟨false, 1, 8, [.nilf], .func⟩
def ti143 : TI := ⟨false, 1, 8, [.nilf], .func⟩
def ti144 : TI := ⟨false, 1, 24, [.sl 0 true []], (.slice 35)⟩
def ti145 : TI := ⟨false, 1, 8, [.nilf], .func⟩
def ti146 : TI := ⟨false, 1, 8, [.nilf], .func⟩
def ti147 : TI := ⟨false, 1, 8, [.nilf], .func⟩
def ti148 : TI := ⟨false, 1, 8, [.nilf], .func⟩
def ti149 : TI := ⟨false, 1, 24, [.sl 0 true []], (.slice 34)⟩
def ti150 : TI := ⟨false, 1, 8, [.nilf], .func⟩
def ti151 : TI := ⟨false, 1, 8, [.nilf], .func⟩
def ti152 : TI := ⟨false, 1, 8, [.nilp], .ptr⟩
def ti153 : TI := ⟨false, 1, 8, [.nilf], .func⟩
def ti154 : TI := ⟨false, 1, 8, [.nilf], .func⟩
def ti155 : TI := ⟨false, 1, 8, [.nilf], .func⟩
def ti156 : TI := ⟨false, 1, 8, [.nilm], (.map 9 3)⟩
def ti157 : TI := ⟨false, 1, 8, [.nilm], (.map 252 3)⟩
def ti158 : TI := ⟨true, 9, 168, [.sl 0 true [], .sl 0 true [], .sl 0 true [], .sl 0 true [], .sl 0 true [], .sl 0 true [], .nilm, .nilm, .nilm], (.struct [(0, 37), (6, 156), (7, 157), (8, 156)])⟩
def ti159 : TI := ⟨true, 9, 168, [.sl 0 true [], .sl 0 true [], .sl 0 true [], .sl 0 true [], .sl 0 true [], .sl 0 true [], .nilm, .nilm, .nilm], (.struct [(0, 37), (6, 156), (7, 157), (8, 156)])⟩
def ti160 : TI := ⟨true, 9, 200, [.sl 0 true [], .sl 0 true [], .sl 0 true [], .sl 0 true [], .sl 0 true [], .sl 0 true [], .sl 0 true [], .sl 0 true [], .bool false], (.struct [(0, 37), (6, 41), (8, 4)])⟩
def ti161 : TI := ⟨true, 9, 200, [.sl 0 true [], .sl 0 true [], .sl 0 true [], .sl 0 true [], .sl 0 true [], .sl 0 true [], .sl 0 true [], .sl 0 true [], .bool false], (.struct [(0, 37), (6, 41), (8, 4)])⟩
def ti162 : TI := ⟨false, 1, 8, [.nilf], .func⟩
def ti163 : TI := ⟨false, 1, 8, [.nilf], .func⟩
def ti164 : TI := ⟨false, 1, 8, [.nilf], .func⟩
def ti165 : TI := ⟨false, 1, 8, [.nilf], .func⟩
def ti166 : TI := ⟨false, 1, 8, [.nilf], .func⟩
def ti167 : TI := ⟨false, 1, 8, [.nilf], .func⟩
def ti168 : TI := ⟨false, 1, 8, [.nilf], .func⟩
def ti169 : TI := ⟨true, 6, 80, [.int .i64 0, .int .i64 0, .sl 0 true [], .int .i64 0, .int .i64 0, .sl 0 true []], (.struct [(0, 62), (3, 62)])⟩
def ti170 : TI := ⟨true, 6, 80, [.int .i64 0, .int .i64 0, .sl 0 true [], .int .i64 0, .int .i64 0, .sl 0 true []], (.struct [(0, 62), (3, 62)])⟩
def ti171 : TI := ⟨false, 1, 8, [.nilf], .func⟩
def ti172 : TI := ⟨false, 1, 8, [.nilf], .func⟩
def ti173 : TI := ⟨false, 1, 8, [.nilf], .func⟩
def ti174 : TI := ⟨false, 1, 8, [.nilf], .func⟩
def ti175 : TI := ⟨false, 1, 8, [.nilf], .func⟩
def ti176 : TI := ⟨false, 1, 8, [.nilf], .func⟩
def ti177 : TI := ⟨false, 1, 8, [.nilf], .func⟩
def ti178 : TI := ⟨false, 1, 8, [.nilf], .func⟩
def ti179 : TI := ⟨false, 1, 8, [.nilf], .func⟩
def ti180 : TI := ⟨false, 1, 8, [.nilf], .func⟩
def ti181 : TI := ⟨false, 1, 8, [.nilf], .func⟩
def ti182 : TI := ⟨false, 1, 8, [.nilf], .func⟩
def ti183 : TI := ⟨false, 1, 8, [.nilf], .func⟩
def ti184 : TI := ⟨false, 1, 8, [.nilf], .func⟩
def ti185 : TI := ⟨false, 1, 8, [.nilf], .func⟩
def ti186 : TI := ⟨false, 1, 8, [.nilf], .func⟩
def ti187 : TI := ⟨false, 1, 8, [.nilf], .func⟩
def ti188 : TI := ⟨false, 1, 8, [.nilf], .func⟩
def ti189 : TI := ⟨false, 1, 8, [.nilf], .func⟩
def ti191 : TI := ⟨false, 1, 8, [.nilf], .func⟩
def ti192 : TI := ⟨false, 1, 8, [.nilf], .func⟩
def ti193 : TI := ⟨false, 1, 8, [.nilp], .ptr⟩
def ti194 : TI := ⟨true, 2, 48, [.sl 0 true [], .sl 0 true []], (.struct [(0, 22), (1, 121)])⟩
def ti195 : TI := ⟨true, 2, 48, [.sl 0 true [], .sl 0 true []], (.struct [(0, 22), (1, 121)])⟩
def ti196 : TI := ⟨false, 1, 8, [.nilf], .func⟩
def ti197 : TI := ⟨false, 1, 8, [.nilf], .func⟩
def ti198 : TI := ⟨false, 1, 8, [.nilf], .func⟩
def ti199 : TI := ⟨false, 1, 8, [.nilf], .func⟩
def ti200 : TI := ⟨false, 1, 8, [.nilf], .func⟩
def ti201 : TI := ⟨false, 1, 8, [.nilf], .func⟩
def ti202 : TI := ⟨false, 1, 8, [.nilf], .func⟩
def ti203 : TI := ⟨false, 1, 24, [.sl 0 true []], (.slice 27)⟩
def ti204 : TI := ⟨false, 1, 8, [.nilf], .func⟩
def ti205 : TI := ⟨false, 1, 8, [.nilf], .func⟩
def ti206 : TI := ⟨false, 1, 8, [.nilf], .func⟩
def ti207 : TI := ⟨false, 1, 8, [.nilf], .func⟩
def ti208 : TI := ⟨true, 1, 8, [.int .i64 0], (.struct [(0, 25)])⟩
def ti209 : TI := ⟨true, 1, 8, [.int .i64 0], (.struct [(0, 25)])⟩
def ti211 : TI := ⟨false, 1, 8, [.nilf], .func⟩
def ti212 : TI := ⟨false, 1, 8, [.nilf], .func⟩
def ti213 : TI := ⟨false, 1, 8, [.nilf], .func⟩
def ti214 : TI := ⟨false, 1, 8, [.nilf], .func⟩
def ti215 : TI := ⟨false, 1, 8, [.nilf], .func⟩
def ti216 : TI := ⟨false, 1, 8, [.nilf], .func⟩
def ti217 : TI := ⟨false, 1, 8, [.nilm], (.map 9 4)⟩
def ti218 : TI := ⟨false, 1, 8, [.nilf], .func⟩
def ti219 : TI := ⟨false, 1, 8, [.nilf], .func⟩
def ti220 : TI := ⟨false, 1, 8, [.nilf], .func⟩
def ti221 : TI := ⟨false, 1, 8, [.nilm], (.map 3 4)⟩
def ti222 : TI := ⟨false, 1, 8, [.nilf], .func⟩
def ti223 : TI := ⟨false, 1, 8, [.nilm], (.map 3 3)⟩
def ti224 : TI := ⟨false, 1, 8, [.nilf], .func⟩
def ti225 : TI := ⟨false, 1, 8, [.nilf], .func⟩
def ti226 : TI := ⟨false, 1, 8, [.nilf], .func⟩
def ti227 : TI := ⟨false, 1, 8, [.nilf], .func⟩
def ti228 : TI := ⟨false, 1, 8, [.nilf], .func⟩
def ti229 : TI := ⟨false, 1, 8, [.nilf], .func⟩
def ti230 : TI := ⟨false, 1, 8, [.nilf], .func⟩
def ti231 : TI := ⟨false, 1, 24, [.sl 0 true []], (.slice 31)⟩
def ti232 : TI := ⟨false, 1, 8, [.nilf], .func⟩
def ti233 : TI := ⟨false, 1, 8, [.nilf], .func⟩
def ti234 : TI := ⟨false, 1, 8, [.nilf], .func⟩
def ti235 : TI := ⟨false, 1, 8, [.nilf], .func⟩
def ti236 : TI := ⟨false, 1, 8, [.nilf], .func⟩
def ti237 : TI := ⟨false, 1, 8, [.nilf], .func⟩
def ti238 : TI := ⟨false, 1, 8, [.nilf], .func⟩
def ti240 : TI := ⟨false, 1, 8, [.nilf], .func⟩
def ti241 : TI := ⟨false, 1, 8, [.nilf], .func⟩
def ti242 : TI := ⟨false, 1, 8, [.nilf], .func⟩
def ti243 : TI := ⟨false, 1, 8, [.nilf], .func⟩
def ti244 : TI := ⟨false, 1, 8, [.nilp], .ptr⟩
def ti245 : TI := ⟨false, 1, 8, [.nilf], .func⟩
def ti246 : TI := ⟨false, 1, 8, [.nilf], .func⟩
def ti247 : TI := ⟨false, 1, 8, [.nilf], .func⟩
def ti249 : TI := ⟨false, 1, 8, [.nilf], .func⟩
def ti250 : TI := ⟨false, 1, 8, [.nilf], .func⟩
def ti251 : TI := ⟨true, 3, 40, [.str ⟨#[]⟩, .str ⟨#[]⟩, .int .i64 0], (.struct [(0, 9), (1, 9), (2, 3)])⟩
def ti252 : TI := ⟨true, 3, 40, [.str ⟨#[]⟩, .str ⟨#[]⟩, .int .i64 0], (.struct [(0, 9), (1, 9), (2, 3)])⟩
def ti253 : TI := ⟨false, 1, 8, [.nilf], .func⟩
def ti254 : TI := ⟨false, 1, 8, [.nilp], .ptr⟩
def ti255 : TI := ⟨false, 1, 8, [.nilf], .func⟩
def ti256 : TI := ⟨false, 1, 8, [.nilf], .func⟩
def ti257 : TI := ⟨false, 1, 8, [.nilf], .func⟩
def ti258 : TI := ⟨false, 1, 8, [.nilf], .func⟩
def ti259 : TI := ⟨false, 1, 24, [.sl 0 true []], (.slice 5)⟩
def ti260 : TI := ⟨false, 1, 8, [.nilf], .func⟩
def ti261 : TI := ⟨false, 1, 8, [.nilf], .func⟩
def ti262 : TI := ⟨false, 1, 8, [.nilf], .func⟩
def ti263 : TI := ⟨false, 1, 8, [.int .u64 0], (.int .u64)⟩
def ti265 : TI := ⟨false, 1, 8, [.nilf], .func⟩
def ti266 : TI := ⟨false, 1, 8, [.nilf], .func⟩
def ti267 : TI := ⟨false, 1, 8, [.nilf], .func⟩
def ti268 : TI := ⟨false, 1, 8, [.nilf], .func⟩
def ti269 : TI := ⟨false, 1, 8, [.nilf], .func⟩
def ti270 : TI := ⟨false, 1, 8, [.nilf], .func⟩
def ti271 : TI := ⟨false, 1, 8, [.nilf], .func⟩
def ti272 : TI := ⟨false, 1, 8, [.nilf], .func⟩
def ti273 : TI := ⟨false, 1, 8, [.nilf], .func⟩
def ti274 : TI := ⟨false, 1, 8, [.nilp], .ptr⟩
def ti275 : TI := ⟨true, 2, 32, [.nilp, .sl 0 true []], (.struct [(0, 274), (1, 259)])⟩
def ti276 : TI := ⟨true, 2, 32, [.nilp, .sl 0 true []], (.struct [(0, 274), (1, 259)])⟩
def ti277 : TI := ⟨false, 1, 16, [.nili], .iface⟩
def ti278 : TI := ⟨false, 1, 16, [.nili], .iface⟩
def ti280 : TI := ⟨false, 1, 8, [.nilf], .func⟩
def ti281 : TI := ⟨false, 1, 8, [.nilf], .func⟩
def ti282 : TI := ⟨false, 1, 8, [.nilf], .func⟩
def ti283 : TI := ⟨false, 1, 8, [.nilf], .func⟩
def ti284 : TI := ⟨true, 2, 16, [.int .i64 0, .int .i64 0], (.struct [(0, 3), (1, 3)])⟩
def ti285 : TI := ⟨true, 2, 16, [.int .i64 0, .int .i64 0], (.struct [(0, 3), (1, 3)])⟩
def ti286 : TI := ⟨false, 1, 8, [.nilf], .func⟩
def ti287 : TI := ⟨false, 1, 8, [.nilf], .func⟩
def ti288 : TI := ⟨false, 1, 8, [.nilf], .func⟩
def ti289 : TI := ⟨false, 1, 4, [.int .u32 0], (.int .u32)⟩
def ti291 : TI := ⟨false, 1, 8, [.nilf], .func⟩
def ti292 : TI := ⟨false, 1, 8, [.int .u64 0], (.int .u64)⟩
def ti294 : TI := ⟨false, 1, 8, [.nilf], .func⟩
def ti295 : TI := ⟨false, 1, 8, [.nilf], .func⟩
def ti296 : TI := ⟨false, 1, 8, [.int .i64 0], (.int .i64)⟩
def ti298 : TI := ⟨false, 1, 8, [.nilf], .func⟩
def ti299 : TI := ⟨false, 1, 8, [.nilf], .func⟩
def ti300 : TI := ⟨false, 1, 8, [.nilf], .func⟩
def ti301 : TI := ⟨false, 1, 8, [.nilf], .func⟩
def ti302 : TI := ⟨false, 1, 8, [.nilf], .func⟩
def ti303 : TI := ⟨false, 1, 8, [.nilf], .func⟩
def ti304 : TI := ⟨false, 1, 8, [.nilf], .func⟩
def ti305 : TI := ⟨false, 1, 8, [.nilf], .func⟩
def ti306 : TI := ⟨false, 1, 8, [.nilf], .func⟩
def ti307 : TI := ⟨false, 1, 8, [.nilp], .ptr⟩
def ti308 : TI := ⟨false, 1, 8, [.nilf], .func⟩
def ti309 : TI := ⟨false, 1, 8, [.nilp], .ptr⟩
def ti310 : TI := ⟨false, 1, 8, [.nilf], .func⟩
def ti311 : TI := ⟨false, 1, 8, [.int .u64 0], (.int .u64)⟩
def ti312 : TI := ⟨false, 1, 8, [.nilf], .func⟩
def ti313 : TI := ⟨false, 1, 8, [.nilf], .func⟩
def ti314 : TI := ⟨false, 1, 8, [.nilf], .func⟩
def ti315 : TI := ⟨false, 1, 8, [.nilp], .ptr⟩
def ti316 : TI := ⟨false, 1, 8, [.nilf], .func⟩
def ti317 : TI := ⟨false, 1, 8, [.nilf], .func⟩
def ti318 : TI := ⟨false, 1, 8, [.nilp], .other⟩
def ti319 : TI := ⟨false, 1, 8, [.nilf], .func⟩
def ti320 : TI := ⟨false, 1, 8, [.nilf], .func⟩
def ti321 : TI := ⟨false, 1, 8, [.nilf], .func⟩
def ti322 : TI := ⟨false, 1, 8, [.nilp], .ptr⟩
def ti324 : TI := ⟨false, 1, 8, [.nilf], .func⟩
def ti325 : TI := ⟨true, 24, 24, [.int .u8 0, .int .u8 0, .int .u8 0, .int .u8 0, .int .u8 0, .int .u8 0, .int .u8 0, .int .u8 0, .int .u8 0, .int .u8 0, .int .u8 0, .int .u8 0, .int .u8 0, .int .u8 0, .int .u8 0, .int .u8 0, .int .u8 0, .int .u8 0, .int .u8 0, .int .u8 0, .int .u8 0, .int .u8 0, .int .u8 0, .int .u8 0], .other⟩
def ti326 : TI := ⟨false, 1, 8, [.nilf], .func⟩
def ti328 : TI := ⟨false, 1, 8, [.nilf], .func⟩
def ti329 : TI := ⟨false, 1, 8, [.nilf], .func⟩
def ti330 : TI := ⟨true, 20, 160, [.int .u64 0, .int .u64 0, .int .u64 0, .int .u64 0, .int .u64 0, .int .u64 0, .int .u64 0, .int .u64 0, .int .u64 0, .int .u64 0, .int .u64 0, .int .u64 0, .int .u64 0, .int .u64 0, .int .u64 0, .int .u64 0, .int .u64 0, .int .u64 0, .int .u64 0, .int .u64 0], .other⟩
def ti331 : TI := ⟨true, 65, 65, [.int .u8 0, .int .u8 0, .int .u8 0, .int .u8 0, .int .u8 0, .int .u8 0, .int .u8 0, .int .u8 0, .int .u8 0, .int .u8 0, .int .u8 0, .int .u8 0, .int .u8 0, .int .u8 0, .int .u8 0, .int .u8 0, .int .u8 0, .int .u8 0, .int .u8 0, .int .u8 0, .int .u8 0, .int .u8 0, .int .u8 0, .int .u8 0, .int .u8 0, .int .u8 0, .int .u8 0, .int .u8 0, .int .u8 0, .int .u8 0, .int .u8 0, .int .u8 0, .int .u8 0, .int .u8 0, .int .u8 0, .int .u8 0, .int .u8 0, .int .u8 0, .int .u8 0, .int .u8 0, .int .u8 0, .int .u8 0, .int .u8 0, .int .u8 0, .int .u8 0, .int .u8 0, .int .u8 0, .int .u8 0, .int .u8 0, .int .u8 0, .int .u8 0, .int .u8 0, .int .u8 0, .int .u8 0, .int .u8 0, .int .u8 0, .int .u8 0, .int .u8 0, .int .u8 0, .int .u8 0, .int .u8 0, .int .u8 0, .int .u8 0, .int .u8 0, .int .u8 0], .other⟩
def ti332 : TI := ⟨true, 32, 32, [.int .u8 0, .int .u8 0, .int .u8 0, .int .u8 0, .int .u8 0, .int .u8 0, .int .u8 0, .int .u8 0, .int .u8 0, .int .u8 0, .int .u8 0, .int .u8 0, .int .u8 0, .int .u8 0, .int .u8 0, .int .u8 0, .int .u8 0, .int .u8 0, .int .u8 0, .int .u8 0, .int .u8 0, .int .u8 0, .int .u8 0, .int .u8 0, .int .u8 0, .int .u8 0, .int .u8 0, .int .u8 0, .int .u8 0, .int .u8 0, .int .u8 0, .int .u8 0], .other⟩
def ti333 : TI := ⟨true, 64, 64, [.int .u8 0, .int .u8 0, .int .u8 0, .int .u8 0, .int .u8 0, .int .u8 0, .int .u8 0, .int .u8 0, .int .u8 0, .int .u8 0, .int .u8 0, .int .u8 0, .int .u8 0, .int .u8 0, .int .u8 0, .int .u8 0, .int .u8 0, .int .u8 0, .int .u8 0, .int .u8 0, .int .u8 0, .int .u8 0, .int .u8 0, .int .u8 0, .int .u8 0, .int .u8 0, .int .u8 0, .int .u8 0, .int .u8 0, .int .u8 0, .int .u8 0, .int .u8 0, .int .u8 0, .int .u8 0, .int .u8 0, .int .u8 0, .int .u8 0, .int .u8 0, .int .u8 0, .int .u8 0, .int .u8 0, .int .u8 0, .int .u8 0, .int .u8 0, .int .u8 0, .int .u8 0, .int .u8 0, .int .u8 0, .int .u8 0, .int .u8 0, .int .u8 0, .int .u8 0, .int .u8 0, .int .u8 0, .int .u8 0, .int .u8 0, .int .u8 0, .int .u8 0, .int .u8 0, .int .u8 0, .int .u8 0, .int .u8 0, .int .u8 0, .int .u8 0], .other⟩
def ti334 : TI := ⟨true, 4, 40, [.nilp, .nilp, .nilp, .str ⟨#[]⟩], (.struct [(0, 17), (1, 17), (2, 17), (3, 9)])⟩
def ti335 : TI := ⟨true, 4, 40, [.nilp, .nilp, .nilp, .str ⟨#[]⟩], (.struct [(0, 17), (1, 17), (2, 17), (3, 9)])⟩
def ti336 : TI := ⟨true, 0, 0, [], .other⟩
def ti337 : TI := ⟨true, 0, 0, [], (.struct [(0, 336)])⟩
def ti338 : TI := ⟨true, 0, 0, [], (.struct [(0, 336)])⟩
def ti339 : TI := ⟨false, 1, 8, [.nilf], .func⟩
def ti340 : TI := ⟨false, 1, 1, [.int .u8 0], (.int .u8)⟩
def ti341 : TI := ⟨false, 1, 1, [.int .u8 0], (.int .u8)⟩
def ti342 : TI := ⟨false, 1, 8, [.nilf], .func⟩
def ti343 : TI := ⟨false, 1, 4, [.int .i32 0], (.int .i32)⟩
def ti344 : TI := ⟨false, 1, 4, [.int .i32 0], (.int .i32)⟩
def ti345 : TI := ⟨true, 11, 48, [.int .u64 0, .int .u64 0, .int .u32 0, .int .u8 0, .int .u8 0, .int .u8 0, .int .u8 0, .nilf, .nilp, .int .i32 0, .int .i32 0], (.struct [(0, 12), (1, 12), (2, 289), (3, 340), (4, 5), (5, 5), (6, 341), (7, 342), (8, 307), (9, 343), (10, 344)])⟩
def ti346 : TI := ⟨true, 11, 48, [.int .u64 0, .int .u64 0, .int .u32 0, .int .u8 0, .int .u8 0, .int .u8 0, .int .u8 0, .nilf, .nilp, .int .i32 0, .int .i32 0], (.struct [(0, 12), (1, 12), (2, 289), (3, 340), (4, 5), (5, 5), (6, 341), (7, 342), (8, 307), (9, 343), (10, 344)])⟩
def tiTree : Tr TI := .bin (.bin (.bin (.bin (.bin (.bin (.bin (.bin (.bin (.nil) (.tip ti256)) (.bin (.tip ti128) (.nil))) (.bin (.bin (.tip ti64) (.tip ti320)) (.bin (.tip ti192) (.nil)))) (.bin (.bin (.bin (.tip ti32) (.tip ti288)) (.bin (.tip ti160) (.nil))) (.bin (.bin (.tip ti96) (.nil)) (.bin (.tip ti224) (.nil))))) (.bin (.bin (.bin (.bin (.tip ti16) (.tip ti272)) (.bin (.tip ti144) (.nil))) (.bin (.bin (.tip ti80) (.tip ti336)) (.bin (.tip ti208) (.nil)))) (.bin (.bin (.bin (.tip ti48) (.tip ti304)) (.bin (.tip ti176) (.nil))) (.bin (.bin (.tip ti112) (.nil)) (.bin (.tip ti240) (.nil)))))) (.bin (.bin (.bin (.bin (.bin (.tip ti8) (.nil)) (.bin (.tip ti136) (.nil))) (.bin (.bin (.tip ti72) (.tip ti328)) (.bin (.tip ti200) (.nil)))) (.bin (.bin (.bin (.tip ti40) (.tip ti296)) (.bin (.tip ti168) (.nil))) (.bin (.bin (.tip ti104) (.nil)) (.bin (.tip ti232) (.nil))))) (.bin (.bin (.bin (.bin (.tip ti24) (.tip ti280)) (.bin (.tip ti152) (.nil))) (.bin (.bin (.tip ti88) (.tip ti344)) (.bin (.tip ti216) (.nil)))) (.bin (.bin (.bin (.nil) (.tip ti312)) (.bin (.tip ti184) (.nil))) (.bin (.bin (.tip ti120) (.nil)) (.nil)))))) (.bin (.bin (.bin (.bin (.bin (.bin (.tip ti4) (.tip ti260)) (.bin (.tip ti132) (.nil))) (.bin (.bin (.tip ti68) (.tip ti324)) (.bin (.tip ti196) (.nil)))) (.bin (.bin (.bin (.tip ti36) (.tip ti292)) (.bin (.tip ti164) (.nil))) (.bin (.bin (.tip ti100) (.nil)) (.bin (.tip ti228) (.nil))))) (.bin (.bin (.bin (.bin (.tip ti20) (.tip ti276)) (.bin (.tip ti148) (.nil))) (.bin (.bin (.tip ti84) (.tip ti340)) (.bin (.tip ti212) (.nil)))) (.bin (.bin (.bin (.tip ti52) (.tip ti308)) (.bin (.tip ti180) (.nil))) (.bin (.bin (.tip ti116) (.nil)) (.bin (.tip ti244) (.nil)))))) (.bin (.bin (.bin (.bin (.bin (.tip ti12) (.tip ti268)) (.bin (.tip ti140) (.nil))) (.bin (.bin (.tip ti76) (.tip ti332)) (.bin (.tip ti204) (.nil)))) (.bin (.bin (.bin (.tip ti44) (.tip ti300)) (.bin (.tip ti172) (.nil))) (.bin (.bin (.tip ti108) (.nil)) (.bin (.tip ti236) (.nil))))) (.bin (.bin (.bin (.bin (.tip ti28) (.tip ti284)) (.bin (.tip ti156) (.nil))) (.bin (.bin (.tip ti92) (.nil)) (.bin (.tip ti220) (.nil)))) (.bin (.bin (.bin (.tip ti60) (.tip ti316)) (.bin (.tip ti188) (.nil))) (.bin (.bin (.tip ti124) (.nil)) (.bin (.tip ti252) (.nil)))))))) (.bin (.bin (.bin (.bin (.bin (.bin (.bin (.tip ti2) (.tip ti258)) (.nil)) (.bin (.bin (.tip ti66) (.tip ti322)) (.bin (.tip ti194) (.nil)))) (.bin (.bin (.bin (.tip ti34) (.nil)) (.bin (.tip ti162) (.nil))) (.bin (.nil) (.bin (.tip ti226) (.nil))))) (.bin (.bin (.bin (.bin (.tip ti18) (.tip ti274)) (.bin (.tip ti146) (.nil))) (.bin (.bin (.tip ti82) (.tip ti338)) (.nil))) (.bin (.bin (.bin (.tip ti50) (.tip ti306)) (.bin (.tip ti178) (.nil))) (.bin (.bin (.tip ti114) (.nil)) (.bin (.tip ti242) (.nil)))))) (.bin (.bin (.bin (.bin (.bin (.tip ti10) (.tip ti266)) (.bin (.tip ti138) (.nil))) (.bin (.bin (.tip ti74) (.tip ti330)) (.bin (.tip ti202) (.nil)))) (.bin (.bin (.bin (.nil) (.tip ti298)) (.bin (.tip ti170) (.nil))) (.bin (.bin (.tip ti106) (.nil)) (.bin (.tip ti234) (.nil))))) (.bin (.bin (.bin (.bin (.tip ti26) (.tip ti282)) (.bin (.tip ti154) (.nil))) (.bin (.bin (.tip ti90) (.tip ti346)) (.bin (.tip ti218) (.nil)))) (.bin (.bin (.bin (.tip ti58) (.tip ti314)) (.bin (.tip ti186) (.nil))) (.bin (.nil) (.bin (.tip ti250) (.nil))))))) (.bin (.bin (.bin (.bin (.bin (.bin (.tip ti6) (.tip ti262)) (.bin (.tip ti134) (.nil))) (.bin (.bin (.tip ti70) (.tip ti326)) (.bin (.tip ti198) (.nil)))) (.bin (.bin (.bin (.nil) (.tip ti294)) (.bin (.tip ti166) (.nil))) (.bin (.bin (.tip ti102) (.nil)) (.bin (.tip ti230) (.nil))))) (.bin (.bin (.bin (.bin (.tip ti22) (.tip ti278)) (.bin (.tip ti150) (.nil))) (.bin (.bin (.tip ti86) (.tip ti342)) (.bin (.tip ti214) (.nil)))) (.bin (.bin (.bin (.nil) (.tip ti310)) (.bin (.tip ti182) (.nil))) (.bin (.bin (.tip ti118) (.nil)) (.bin (.tip ti246) (.nil)))))) (.bin (.bin (.bin (.bin (.bin (.tip ti14) (.tip ti270)) (.nil)) (.bin (.bin (.tip ti78) (.tip ti334)) (.bin (.tip ti206) (.nil)))) (.bin (.bin (.bin (.tip ti46) (.tip ti302)) (.bin (.tip ti174) (.nil))) (.bin (.bin (.tip ti110) (.nil)) (.bin (.tip ti238) (.nil))))) (.bin (.bin (.bin (.bin (.tip ti30) (.tip ti286)) (.bin (.tip ti158) (.nil))) (.bin (.bin (.tip ti94) (.nil)) (.bin (.tip ti222) (.nil)))) (.bin (.bin (.bin (.tip ti62) (.tip ti318)) (.nil)) (.bin (.bin (.tip ti126) (.nil)) (.bin (.tip ti254) (.nil))))))))) (.bin (.bin (.bin (.bin (.bin (.bin (.bin (.bin (.tip ti1) (.tip ti257)) (.bin (.tip ti129) (.nil))) (.bin (.bin (.tip ti65) (.tip ti321)) (.bin (.tip ti193) (.nil)))) (.bin (.bin (.bin (.tip ti33) (.tip ti289)) (.bin (.tip ti161) (.nil))) (.bin (.bin (.tip ti97) (.nil)) (.bin (.tip ti225) (.nil))))) (.bin (.bin (.bin (.bin (.tip ti17) (.tip ti273)) (.bin (.tip ti145) (.nil))) (.bin (.bin (.tip ti81) (.tip ti337)) (.bin (.tip ti209) (.nil)))) (.bin (.bin (.bin (.tip ti49) (.tip ti305)) (.bin (.tip ti177) (.nil))) (.bin (.bin (.tip ti113) (.nil)) (.bin (.tip ti241) (.nil)))))) (.bin (.bin (.bin (.bin (.bin (.tip ti9) (.tip ti265)) (.bin (.tip ti137) (.nil))) (.bin (.bin (.nil) (.tip ti329)) (.bin (.tip ti201) (.nil)))) (.bin (.bin (.bin (.tip ti41) (.nil)) (.bin (.tip ti169) (.nil))) (.bin (.bin (.tip ti105) (.nil)) (.bin (.tip ti233) (.nil))))) (.bin (.bin (.bin (.bin (.tip ti25) (.tip ti281)) (.bin (.tip ti153) (.nil))) (.bin (.bin (.tip ti89) (.tip ti345)) (.bin (.tip ti217) (.nil)))) (.bin (.bin (.bin (.tip ti57) (.tip ti313)) (.bin (.tip ti185) (.nil))) (.bin (.bin (.tip ti121) (.nil)) (.bin (.tip ti249) (.nil))))))) (.bin (.bin (.bin (.bin (.bin (.bin (.tip ti5) (.tip ti261)) (.bin (.tip ti133) (.nil))) (.bin (.bin (.tip ti69) (.tip ti325)) (.bin (.tip ti197) (.nil)))) (.bin (.bin (.bin (.tip ti37) (.nil)) (.bin (.tip ti165) (.nil))) (.bin (.bin (.tip ti101) (.nil)) (.bin (.tip ti229) (.nil))))) (.bin (.bin (.bin (.bin (.tip ti21) (.tip ti277)) (.bin (.tip ti149) (.nil))) (.bin (.bin (.tip ti85) (.tip ti341)) (.bin (.tip ti213) (.nil)))) (.bin (.bin (.bin (.tip ti53) (.tip ti309)) (.bin (.tip ti181) (.nil))) (.bin (.bin (.tip ti117) (.nil)) (.bin (.tip ti245) (.nil)))))) (.bin (.bin (.bin (.bin (.bin (.tip ti13) (.tip ti269)) (.bin (.tip ti141) (.nil))) (.bin (.bin (.tip ti77) (.tip ti333)) (.bin (.tip ti205) (.nil)))) (.bin (.bin (.bin (.tip ti45) (.tip ti301)) (.bin (.tip ti173) (.nil))) (.bin (.bin (.tip ti109) (.nil)) (.bin (.tip ti237) (.nil))))) (.bin (.bin (.bin (.bin (.tip ti29) (.tip ti285)) (.bin (.tip ti157) (.nil))) (.bin (.bin (.tip ti93) (.nil)) (.bin (.tip ti221) (.nil)))) (.bin (.bin (.bin (.tip ti61) (.tip ti317)) (.bin (.tip ti189) (.nil))) (.bin (.nil) (.bin (.tip ti253) (.nil)))))))) (.bin (.bin (.bin (.bin (.bin (.bin (.bin (.tip ti3) (.tip ti259)) (.bin (.tip ti131) (.nil))) (.bin (.bin (.tip ti67) (.nil)) (.bin (.tip ti195) (.nil)))) (.bin (.bin (.bin (.tip ti35) (.tip ti291)) (.bin (.tip ti163) (.nil))) (.bin (.bin (.tip ti99) (.nil)) (.bin (.tip ti227) (.nil))))) (.bin (.bin (.bin (.bin (.tip ti19) (.tip ti275)) (.bin (.tip ti147) (.nil))) (.bin (.bin (.tip ti83) (.tip ti339)) (.bin (.tip ti211) (.nil)))) (.bin (.bin (.bin (.tip ti51) (.tip ti307)) (.bin (.tip ti179) (.nil))) (.bin (.bin (.tip ti115) (.nil)) (.bin (.tip ti243) (.nil)))))) (.bin (.bin (.bin (.bin (.bin (.tip ti11) (.tip ti267)) (.bin (.tip ti139) (.nil))) (.bin (.bin (.tip ti75) (.tip ti331)) (.bin (.tip ti203) (.nil)))) (.bin (.bin (.bin (.tip ti43) (.tip ti299)) (.bin (.tip ti171) (.nil))) (.bin (.bin (.tip ti107) (.nil)) (.bin (.tip ti235) (.nil))))) (.bin (.bin (.bin (.bin (.tip ti27) (.tip ti283)) (.bin (.tip ti155) (.nil))) (.bin (.bin (.tip ti91) (.nil)) (.bin (.tip ti219) (.nil)))) (.bin (.bin (.bin (.tip ti59) (.tip ti315)) (.bin (.tip ti187) (.nil))) (.bin (.bin (.tip ti123) (.nil)) (.bin (.tip ti251) (.nil))))))) (.bin (.bin (.bin (.bin (.bin (.bin (.tip ti7) (.tip ti263)) (.bin (.tip ti135) (.nil))) (.bin (.nil) (.bin (.tip ti199) (.nil)))) (.bin (.bin (.bin (.tip ti39) (.tip ti295)) (.bin (.tip ti167) (.nil))) (.bin (.nil) (.bin (.tip ti231) (.nil))))) (.bin (.bin (.bin (.bin (.tip ti23) (.nil)) (.bin (.tip ti151) (.nil))) (.bin (.bin (.tip ti87) (.tip ti343)) (.bin (.tip ti215) (.nil)))) (.bin (.bin (.bin (.tip ti55) (.tip ti311)) (.bin (.tip ti183) (.nil))) (.bin (.bin (.tip ti119) (.nil)) (.bin (.tip ti247) (.nil)))))) (.bin (.bin (.bin (.bin (.bin (.tip ti15) (.tip ti271)) (.bin (.tip ti143) (.nil))) (.bin (.bin (.nil) (.tip ti335)) (.bin (.tip ti207) (.nil)))) (.bin (.bin (.bin (.tip ti47) (.tip ti303)) (.bin (.tip ti175) (.nil))) (.bin (.bin (.tip ti111) (.nil)) (.nil)))) (.bin (.bin (.bin (.bin (.tip ti31) (.tip ti287)) (.bin (.tip ti159) (.nil))) (.bin (.nil) (.bin (.tip ti223) (.nil)))) (.bin (.bin (.bin (.tip ti63) (.tip ti319)) (.bin (.tip ti191) (.nil))) (.bin (.bin (.tip ti127) (.nil)) (.bin (.tip ti255) (.nil)))))))))
noncomputable def fnTree : Tr Func := .bin (.bin (.bin (.bin (.bin (.bin (.bin (.bin (.bin (.nil) (.tip Go.Proofs.Tryz.f256)) (.bin (.tip Go.Proofs.Tryz.f128) (.nil))) (.bin (.bin (.tip Go.Proofs.Tryz.f64) (.nil)) (.bin (.tip Go.Proofs.Tryz.f192) (.nil)))) (.bin (.bin (.bin (.tip Go.Proofs.Tryz.f32) (.nil)) (.bin (.tip Go.Proofs.Tryz.f160) (.nil))) (.bin (.bin (.tip Go.Proofs.Tryz.f96) (.nil)) (.bin (.tip Go.Proofs.Tryz.f224) (.nil))))) (.bin (.bin (.bin (.bin (.tip Go.Proofs.Tryz.f16) (.tip Go.Proofs.Tryz.f272)) (.bin (.tip Go.Proofs.Tryz.f144) (.nil))) (.bin (.bin (.tip Go.Proofs.Tryz.f80) (.nil)) (.bin (.tip Go.Proofs.Tryz.f208) (.nil)))) (.bin (.bin (.bin (.tip Go.Proofs.Tryz.f48) (.nil)) (.bin (.tip Go.Proofs.Tryz.f176) (.nil))) (.bin (.bin (.tip Go.Proofs.Tryz.f112) (.nil)) (.bin (.tip Go.Proofs.Tryz.f240) (.nil)))))) (.bin (.bin (.bin (.bin (.bin (.tip Go.Proofs.Tryz.f8) (.tip Go.Proofs.Tryz.f264)) (.bin (.tip Go.Proofs.Tryz.f136) (.nil))) (.bin (.bin (.tip Go.Proofs.Tryz.f72) (.nil)) (.bin (.tip Go.Proofs.Tryz.f200) (.nil)))) (.bin (.bin (.bin (.tip Go.Proofs.Tryz.f40) (.tip Go.Proofs.Tryz.f296)) (.bin (.tip Go.Proofs.Tryz.f168) (.nil))) (.bin (.bin (.tip Go.Proofs.Tryz.f104) (.nil)) (.bin (.tip Go.Proofs.Tryz.f232) (.nil))))) (.bin (.bin (.bin (.bin (.tip Go.Proofs.Tryz.f24) (.tip Go.Proofs.Tryz.f280)) (.bin (.tip Go.Proofs.Tryz.f152) (.nil))) (.bin (.bin (.tip Go.Proofs.Tryz.f88) (.nil)) (.bin (.tip Go.Proofs.Tryz.f216) (.nil)))) (.bin (.bin (.bin (.tip Go.Proofs.Tryz.f56) (.nil)) (.bin (.tip Go.Proofs.Tryz.f184) (.nil))) (.bin (.bin (.tip Go.Proofs.Tryz.f120) (.nil)) (.nil)))))) (.bin (.bin (.bin (.bin (.bin (.bin (.tip Go.Proofs.Tryz.f4) (.nil)) (.bin (.tip Go.Proofs.Tryz.f132) (.nil))) (.bin (.bin (.tip Go.Proofs.Tryz.f68) (.nil)) (.bin (.tip Go.Proofs.Tryz.f196) (.nil)))) (.bin (.bin (.bin (.tip Go.Proofs.Tryz.f36) (.tip Go.Proofs.Tryz.f292)) (.bin (.tip Go.Proofs.Tryz.f164) (.nil))) (.bin (.bin (.tip Go.Proofs.Tryz.f100) (.nil)) (.bin (.tip Go.Proofs.Tryz.f228) (.nil))))) (.bin (.bin (.bin (.bin (.tip Go.Proofs.Tryz.f20) (.tip Go.Proofs.Tryz.f276)) (.bin (.tip Go.Proofs.Tryz.f148) (.nil))) (.bin (.bin (.tip Go.Proofs.Tryz.f84) (.nil)) (.bin (.tip Go.Proofs.Tryz.f212) (.nil)))) (.bin (.bin (.bin (.tip Go.Proofs.Tryz.f52) (.nil)) (.bin (.tip Go.Proofs.Tryz.f180) (.nil))) (.bin (.bin (.tip Go.Proofs.Tryz.f116) (.nil)) (.bin (.tip Go.Proofs.Tryz.f244) (.nil)))))) (.bin (.bin (.bin (.bin (.bin (.tip Go.Proofs.Tryz.f12) (.tip Go.Proofs.Tryz.f268)) (.bin (.tip Go.Proofs.Tryz.f140) (.nil))) (.bin (.bin (.tip Go.Proofs.Tryz.f76) (.nil)) (.bin (.tip Go.Proofs.Tryz.f204) (.nil)))) (.bin (.bin (.bin (.tip Go.Proofs.Tryz.f44) (.nil)) (.bin (.tip Go.Proofs.Tryz.f172) (.nil))) (.bin (.bin (.tip Go.Proofs.Tryz.f108) (.nil)) (.bin (.tip Go.Proofs.Tryz.f236) (.nil))))) (.bin (.bin (.bin (.bin (.tip Go.Proofs.Tryz.f28) (.tip Go.Proofs.Tryz.f284)) (.bin (.tip Go.Proofs.Tryz.f156) (.nil))) (.bin (.bin (.tip Go.Proofs.Tryz.f92) (.nil)) (.nil))) (.bin (.bin (.bin (.tip Go.Proofs.Tryz.f60) (.nil)) (.bin (.tip Go.Proofs.Tryz.f188) (.nil))) (.bin (.bin (.tip Go.Proofs.Tryz.f124) (.nil)) (.nil))))))) (.bin (.bin (.bin (.bin (.bin (.bin (.nil) (.bin (.tip Go.Proofs.Tryz.f130) (.nil))) (.bin (.bin (.tip Go.Proofs.Tryz.f66) (.nil)) (.bin (.tip Go.Proofs.Tryz.f194) (.nil)))) (.bin (.bin (.bin (.tip Go.Proofs.Tryz.f34) (.nil)) (.bin (.tip Go.Proofs.Tryz.f162) (.nil))) (.bin (.bin (.tip Go.Proofs.Tryz.f98) (.nil)) (.bin (.tip Go.Proofs.Tryz.f226) (.nil))))) (.bin (.bin (.bin (.bin (.tip Go.Proofs.Tryz.f18) (.tip Go.Proofs.Tryz.f274)) (.bin (.tip Go.Proofs.Tryz.f146) (.nil))) (.bin (.bin (.tip Go.Proofs.Tryz.f82) (.nil)) (.bin (.tip Go.Proofs.Tryz.f210) (.nil)))) (.bin (.bin (.bin (.tip Go.Proofs.Tryz.f50) (.tip Go.Proofs.Tryz.f306)) (.bin (.tip Go.Proofs.Tryz.f178) (.nil))) (.bin (.bin (.tip Go.Proofs.Tryz.f114) (.nil)) (.bin (.tip Go.Proofs.Tryz.f242) (.nil)))))) (.bin (.bin (.bin (.bin (.bin (.tip Go.Proofs.Tryz.f10) (.tip Go.Proofs.Tryz.f266)) (.bin (.tip Go.Proofs.Tryz.f138) (.nil))) (.bin (.bin (.tip Go.Proofs.Tryz.f74) (.nil)) (.bin (.tip Go.Proofs.Tryz.f202) (.nil)))) (.bin (.bin (.bin (.tip Go.Proofs.Tryz.f42) (.tip Go.Proofs.Tryz.f298)) (.bin (.tip Go.Proofs.Tryz.f170) (.nil))) (.bin (.bin (.tip Go.Proofs.Tryz.f106) (.nil)) (.bin (.tip Go.Proofs.Tryz.f234) (.nil))))) (.bin (.bin (.bin (.bin (.tip Go.Proofs.Tryz.f26) (.nil)) (.bin (.tip Go.Proofs.Tryz.f154) (.nil))) (.bin (.bin (.tip Go.Proofs.Tryz.f90) (.nil)) (.bin (.tip Go.Proofs.Tryz.f218) (.nil)))) (.bin (.bin (.bin (.tip Go.Proofs.Tryz.f58) (.nil)) (.bin (.tip Go.Proofs.Tryz.f186) (.nil))) (.bin (.bin (.tip Go.Proofs.Tryz.f122) (.nil)) (.bin (.tip Go.Proofs.Tryz.f250) (.nil))))))) (.bin (.bin (.bin (.bin (.bin (.bin (.tip Go.Proofs.Tryz.f6) (.tip Go.Proofs.Tryz.f262)) (.bin (.tip Go.Proofs.Tryz.f134) (.nil))) (.bin (.bin (.tip Go.Proofs.Tryz.f70) (.nil)) (.bin (.tip Go.Proofs.Tryz.f198) (.nil)))) (.bin (.bin (.bin (.tip Go.Proofs.Tryz.f38) (.tip Go.Proofs.Tryz.f294)) (.bin (.tip Go.Proofs.Tryz.f166) (.nil))) (.bin (.bin (.tip Go.Proofs.Tryz.f102) (.nil)) (.nil)))) (.bin (.bin (.bin (.bin (.tip Go.Proofs.Tryz.f22) (.tip Go.Proofs.Tryz.f278)) (.bin (.tip Go.Proofs.Tryz.f150) (.nil))) (.bin (.bin (.tip Go.Proofs.Tryz.f86) (.nil)) (.bin (.tip Go.Proofs.Tryz.f214) (.nil)))) (.bin (.bin (.bin (.tip Go.Proofs.Tryz.f54) (.nil)) (.bin (.tip Go.Proofs.Tryz.f182) (.nil))) (.bin (.bin (.tip Go.Proofs.Tryz.f118) (.nil)) (.nil))))) (.bin (.bin (.bin (.bin (.bin (.tip Go.Proofs.Tryz.f14) (.nil)) (.bin (.tip Go.Proofs.Tryz.f142) (.nil))) (.bin (.bin (.tip Go.Proofs.Tryz.f78) (.nil)) (.nil))) (.bin (.bin (.bin (.tip Go.Proofs.Tryz.f46) (.tip Go.Proofs.Tryz.f302)) (.bin (.tip Go.Proofs.Tryz.f174) (.nil))) (.bin (.bin (.tip Go.Proofs.Tryz.f110) (.nil)) (.bin (.tip Go.Proofs.Tryz.f238) (.nil))))) (.bin (.bin (.bin (.bin (.tip Go.Proofs.Tryz.f30) (.nil)) (.bin (.tip Go.Proofs.Tryz.f158) (.nil))) (.bin (.bin (.tip Go.Proofs.Tryz.f94) (.nil)) (.bin (.tip Go.Proofs.Tryz.f222) (.nil)))) (.bin (.bin (.bin (.tip Go.Proofs.Tryz.f62) (.nil)) (.bin (.tip Go.Proofs.Tryz.f190) (.nil))) (.bin (.bin (.tip Go.Proofs.Tryz.f126) (.nil)) (.nil)))))))) (.bin (.bin (.bin (.bin (.bin (.bin (.bin (.bin (.nil) (.tip Go.Proofs.Tryz.f257)) (.bin (.tip Go.Proofs.Tryz.f129) (.nil))) (.bin (.bin (.tip Go.Proofs.Tryz.f65) (.nil)) (.bin (.tip Go.Proofs.Tryz.f193) (.nil)))) (.bin (.bin (.bin (.tip Go.Proofs.Tryz.f33) (.nil)) (.nil)) (.bin (.bin (.tip Go.Proofs.Tryz.f97) (.nil)) (.bin (.tip Go.Proofs.Tryz.f225) (.nil))))) (.bin (.bin (.bin (.bin (.tip Go.Proofs.Tryz.f17) (.tip Go.Proofs.Tryz.f273)) (.bin (.tip Go.Proofs.Tryz.f145) (.nil))) (.bin (.bin (.tip Go.Proofs.Tryz.f81) (.nil)) (.bin (.tip Go.Proofs.Tryz.f209) (.nil)))) (.bin (.bin (.bin (.tip Go.Proofs.Tryz.f49) (.nil)) (.bin (.tip Go.Proofs.Tryz.f177) (.nil))) (.bin (.bin (.tip Go.Proofs.Tryz.f113) (.nil)) (.nil))))) (.bin (.bin (.bin (.bin (.bin (.tip Go.Proofs.Tryz.f9) (.tip Go.Proofs.Tryz.f265)) (.bin (.tip Go.Proofs.Tryz.f137) (.nil))) (.bin (.bin (.tip Go.Proofs.Tryz.f73) (.nil)) (.bin (.tip Go.Proofs.Tryz.f201) (.nil)))) (.bin (.bin (.bin (.tip Go.Proofs.Tryz.f41) (.tip Go.Proofs.Tryz.f297)) (.bin (.tip Go.Proofs.Tryz.f169) (.nil))) (.bin (.bin (.tip Go.Proofs.Tryz.f105) (.nil)) (.nil)))) (.bin (.bin (.bin (.bin (.tip Go.Proofs.Tryz.f25) (.tip Go.Proofs.Tryz.f281)) (.bin (.tip Go.Proofs.Tryz.f153) (.nil))) (.bin (.bin (.tip Go.Proofs.Tryz.f89) (.nil)) (.bin (.tip Go.Proofs.Tryz.f217) (.nil)))) (.bin (.bin (.bin (.tip Go.Proofs.Tryz.f57) (.nil)) (.bin (.tip Go.Proofs.Tryz.f185) (.nil))) (.bin (.bin (.tip Go.Proofs.Tryz.f121) (.nil)) (.bin (.tip Go.Proofs.Tryz.f249) (.nil))))))) (.bin (.bin (.bin (.bin (.bin (.bin (.tip Go.Proofs.Tryz.f5) (.nil)) (.bin (.tip Go.Proofs.Tryz.f133) (.nil))) (.bin (.bin (.tip Go.Proofs.Tryz.f69) (.nil)) (.bin (.tip Go.Proofs.Tryz.f197) (.nil)))) (.bin (.bin (.bin (.tip Go.Proofs.Tryz.f37) (.tip Go.Proofs.Tryz.f293)) (.bin (.tip Go.Proofs.Tryz.f165) (.nil))) (.bin (.bin (.tip Go.Proofs.Tryz.f101) (.nil)) (.bin (.tip Go.Proofs.Tryz.f229) (.nil))))) (.bin (.bin (.bin (.bin (.tip Go.Proofs.Tryz.f21) (.tip Go.Proofs.Tryz.f277)) (.bin (.tip Go.Proofs.Tryz.f149) (.nil))) (.bin (.bin (.tip Go.Proofs.Tryz.f85) (.nil)) (.nil))) (.bin (.bin (.bin (.tip Go.Proofs.Tryz.f53) (.nil)) (.bin (.tip Go.Proofs.Tryz.f181) (.nil))) (.bin (.bin (.tip Go.Proofs.Tryz.f117) (.nil)) (.bin (.tip Go.Proofs.Tryz.f245) (.nil)))))) (.bin (.bin (.bin (.bin (.bin (.tip Go.Proofs.Tryz.f13) (.nil)) (.bin (.tip Go.Proofs.Tryz.f141) (.nil))) (.bin (.bin (.tip Go.Proofs.Tryz.f77) (.nil)) (.bin (.tip Go.Proofs.Tryz.f205) (.nil)))) (.bin (.bin (.bin (.tip Go.Proofs.Tryz.f45) (.nil)) (.bin (.tip Go.Proofs.Tryz.f173) (.nil))) (.bin (.bin (.tip Go.Proofs.Tryz.f109) (.nil)) (.bin (.tip Go.Proofs.Tryz.f237) (.nil))))) (.bin (.bin (.bin (.bin (.tip Go.Proofs.Tryz.f29) (.tip Go.Proofs.Tryz.f285)) (.bin (.tip Go.Proofs.Tryz.f157) (.nil))) (.bin (.bin (.tip Go.Proofs.Tryz.f93) (.nil)) (.bin (.tip Go.Proofs.Tryz.f221) (.nil)))) (.bin (.bin (.bin (.tip Go.Proofs.Tryz.f61) (.nil)) (.bin (.tip Go.Proofs.Tryz.f189) (.nil))) (.bin (.bin (.tip Go.Proofs.Tryz.f125) (.nil)) (.nil))))))) (.bin (.bin (.bin (.bin (.bin (.bin (.bin (.tip Go.Proofs.Tryz.f3) (.nil)) (.bin (.tip Go.Proofs.Tryz.f131) (.nil))) (.bin (.bin (.tip Go.Proofs.Tryz.f67) (.nil)) (.bin (.tip Go.Proofs.Tryz.f195) (.nil)))) (.bin (.bin (.bin (.tip Go.Proofs.Tryz.f35) (.nil)) (.bin (.tip Go.Proofs.Tryz.f163) (.nil))) (.bin (.bin (.tip Go.Proofs.Tryz.f99) (.nil)) (.bin (.tip Go.Proofs.Tryz.f227) (.nil))))) (.bin (.bin (.bin (.bin (.tip Go.Proofs.Tryz.f19) (.tip Go.Proofs.Tryz.f275)) (.bin (.tip Go.Proofs.Tryz.f147) (.nil))) (.bin (.bin (.tip Go.Proofs.Tryz.f83) (.nil)) (.bin (.tip Go.Proofs.Tryz.f211) (.nil)))) (.bin (.bin (.bin (.tip Go.Proofs.Tryz.f51) (.nil)) (.nil)) (.bin (.bin (.tip Go.Proofs.Tryz.f115) (.nil)) (.bin (.tip Go.Proofs.Tryz.f243) (.nil)))))) (.bin (.bin (.bin (.bin (.bin (.tip Go.Proofs.Tryz.f11) (.tip Go.Proofs.Tryz.f267)) (.bin (.tip Go.Proofs.Tryz.f139) (.nil))) (.bin (.bin (.tip Go.Proofs.Tryz.f75) (.nil)) (.bin (.tip Go.Proofs.Tryz.f203) (.nil)))) (.bin (.bin (.bin (.tip Go.Proofs.Tryz.f43) (.tip Go.Proofs.Tryz.f299)) (.bin (.tip Go.Proofs.Tryz.f171) (.nil))) (.bin (.bin (.tip Go.Proofs.Tryz.f107) (.nil)) (.bin (.tip Go.Proofs.Tryz.f235) (.nil))))) (.bin (.bin (.bin (.bin (.tip Go.Proofs.Tryz.f27) (.nil)) (.bin (.tip Go.Proofs.Tryz.f155) (.nil))) (.bin (.bin (.tip Go.Proofs.Tryz.f91) (.nil)) (.nil))) (.bin (.bin (.bin (.tip Go.Proofs.Tryz.f59) (.nil)) (.bin (.tip Go.Proofs.Tryz.f187) (.nil))) (.bin (.bin (.tip Go.Proofs.Tryz.f123) (.nil)) (.bin (.tip Go.Proofs.Tryz.f251) (.nil))))))) (.bin (.bin (.bin (.bin (.bin (.bin (.tip Go.Proofs.Tryz.f7) (.tip Go.Proofs.Tryz.f263)) (.bin (.tip Go.Proofs.Tryz.f135) (.nil))) (.bin (.nil) (.bin (.tip Go.Proofs.Tryz.f199) (.nil)))) (.bin (.bin (.bin (.tip Go.Proofs.Tryz.f39) (.tip Go.Proofs.Tryz.f295)) (.bin (.tip Go.Proofs.Tryz.f167) (.nil))) (.bin (.bin (.tip Go.Proofs.Tryz.f103) (.nil)) (.nil)))) (.bin (.bin (.bin (.bin (.tip Go.Proofs.Tryz.f23) (.tip Go.Proofs.Tryz.f279)) (.bin (.tip Go.Proofs.Tryz.f151) (.nil))) (.bin (.bin (.tip Go.Proofs.Tryz.f87) (.nil)) (.bin (.tip Go.Proofs.Tryz.f215) (.nil)))) (.bin (.bin (.bin (.tip Go.Proofs.Tryz.f55) (.nil)) (.bin (.tip Go.Proofs.Tryz.f183) (.nil))) (.bin (.bin (.tip Go.Proofs.Tryz.f119) (.nil)) (.nil))))) (.bin (.bin (.bin (.bin (.bin (.tip Go.Proofs.Tryz.f15) (.tip Go.Proofs.Tryz.f271)) (.bin (.tip Go.Proofs.Tryz.f143) (.nil))) (.bin (.bin (.tip Go.Proofs.Tryz.f79) (.nil)) (.bin (.tip Go.Proofs.Tryz.f207) (.nil)))) (.bin (.bin (.bin (.tip Go.Proofs.Tryz.f47) (.nil)) (.bin (.tip Go.Proofs.Tryz.f175) (.nil))) (.bin (.bin (.tip Go.Proofs.Tryz.f111) (.nil)) (.bin (.tip Go.Proofs.Tryz.f239) (.nil))))) (.bin (.bin (.bin (.bin (.tip Go.Proofs.Tryz.f31) (.nil)) (.bin (.tip Go.Proofs.Tryz.f159) (.nil))) (.bin (.nil) (.bin (.tip Go.Proofs.Tryz.f223) (.nil)))) (.bin (.bin (.bin (.tip Go.Proofs.Tryz.f63) (.nil)) (.bin (.tip Go.Proofs.Tryz.f191) (.nil))) (.bin (.bin (.tip Go.Proofs.Tryz.f127) (.nil)) (.nil))))))))
noncomputable def cfg : Cfg where
  T := tiTree.get
  F := fnTree.get
  keep := fun f => match f with | 77 | 173 | 209 => true | _ => false
  st := fun f _ => match f with | 77 | 152 | 171 => true | _ => false
  keyed := fun t v => (Nat.beq t 3 || Nat.beq t 9 || Nat.beq t 252) && keyedOf tiTree.get t v
  prim := fun f => match f with
    | 213 => some primIsName
    | 219 => some primKey
    | 220 => some primText
    | 233 => some primCount
    | 179 => some primContains
    | 230 => some primIndexByte
    | 206 => some primRepeat
    | 71 => some (primClone isI 8)
    | 161 => some (primClone isS 16)
    | _ => none
  marked := 165
  guard := 102
  fault := 209
def good : FuncId → Bool := fun _ => true
end Go.Av
