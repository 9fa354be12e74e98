/- What the law answers for each argument that reads as data. Conditions: none beyond the hypotheses of each theorem. -/
import Derived.Test.YtdjgjnahfekdhaaGreatDoorV5
import Derived.Test.YtdjgjnahfekdhaaGreatDoorCards
import Derived.Test.YtdjgjnahfekdhaaGreatDoorTie
import Derived.WalkKit
import Derived.ProofKit
import Derived.OpenShut
import Derived.ChangeOld
import Derived.Below
import Derived.SizedLaws
import Derived.Carry
import Derived.Lib.SmallJoins
import Derived.Deep.DeepHandedRow
import Derived.Lib.LaidTab
set_option linter.unusedSectionVars false
set_option linter.unusedVariables false
set_option linter.unusedSimpArgs false
namespace Go.Proofs.YtdjgjnahfekdhaaGreatDoor.typesOnes
open Go.ChangeShapes Go.WideShapes Go.ChangeAt Go.RowKit Go.Joins Go.Av
set_option maxRecDepth 100000
theorem own : ownKnob Tryz.prog.godebug = none := by kernel_rfl
theorem laidOut : laidOutB Tryz.prog = true := by kernel_rfl
theorem strip_bool {H : Go.Av.Heap} {n0 n : Nat} {v : V} {b : Bool} (h : Go.Av.strip H n0 false n v = some (.bool b)) : v = .bool b := by
  cases n with
  | zero => cases h
  | succ n =>
    unfold Go.Av.strip at h
    split at h
    · exact Option.some.inj h
    · cases v <;> simp only at h <;> first | (cases h; done) | skip
      all_goals first
        | (rw [Option.map_eq_some_iff] at h; obtain ⟨_, _, h⟩ := h; cases h; done)
        | (split at h <;> first | (cases h; done) | (rw [Option.map_eq_some_iff] at h; obtain ⟨_, _, h⟩ := h; cases h; done) | skip)
        | exact Option.some.inj h
      all_goals first
        | (split at h <;> first | (cases h; done) | (rw [Option.map_eq_some_iff] at h; obtain ⟨_, _, h⟩ := h; cases h; done) | (split at h <;> first | (cases h; done) | (split at h <;> first | (cases h; done) | (rw [Option.map_eq_some_iff] at h; obtain ⟨_, _, h⟩ := h; cases h; done))))
theorem okWide_struct {P : Program} {w : World} {r : Reach} {base : Nat} {t : TypeId} {v : Value} {fs : Array Field} (ht : P.underlying t = some (.struct fs)) (h : Value.okWide P w r base t v) : ∃ cs, v = .agg cs := by
  unfold Value.okWide at h
  rw [ht] at h
  obtain ⟨cs, h1, _⟩ := h
  exact ⟨cs, h1⟩
theorem law (W : World) (ca cb ce : Array Value) (a b : Ty) (e : Eq2) (ha : RVs (ctx0 W) [] W (yV a) ca.toList) (hb : RVs (ctx0 W) [] W (yV b) cb.toList) (he : RVs (ctx0 W) [] W (eV e) ce.toList)
    (fa : a.Fit) (fb : b.Fit) (fe : e.Fit) (ra : a.Rng) (re : e.Rng) :
    Calls Tryz.prog 7 #[.agg ca, .agg cb, .agg ce] W fun e W' => e = .returned (.bool true) ∧ Below W.heap.size W { W' with tape := W.tape } := by
  obtain ⟨r, h1, h2, h3⟩ := ones_fn a b e fa fb fe ra re
  rw [E_eq] at h1
  have hv : r.v = .bool true := strip_bool h3
  refine (calls_W h1 (c := ctx0 W) (w := W) (vs := #[.agg ca, .agg cb, .agg ce]) (rh0 W) ?_).mono fun x W' hr => ?_
  · show RVs (ctx0 W) [] W [.agg (yV a), .agg (yV b), .agg (eV e)] [.agg ca, .agg cb, .agg ce]
    simp only [RVs, RV]
    exact ⟨_, _, rfl, ⟨ca, rfl, ha⟩, _, _, rfl, ⟨cb, rfl, hb⟩, _, _, rfl, ⟨ce, rfl, he⟩, rfl⟩
  · rcases hr with hf | ⟨c', x2, ev, _, hx, rfl⟩
    · exact hf.elim
    rw [hv] at hx
    simp only [RV] at hx
    subst hx
    rw [h2]
    exact ⟨rfl, ev.io.1, rfl, ev.io.2, ev.size, fun k hk => ev.old k hk⟩
theorem contract (H : Type) (enc : TypeId × Value → H) (W : World) (base : Nat) (args : Array Value) (ds gs : List (DataW H)) (before : List MemPlace)
    (hval : ∀ (j : Nat) t v, Tryz.f7.params[j]? = some t → args[j]? = some v → Value.okWide Tryz.prog W .any base t v)
    (hW : DataW.Whole enc Tryz.prog Tryz.f7.params.toList Rows.typesOnesSpec.vars false W args.toList ds gs before) :
    Calls Tryz.prog 7 args W fun e W' => ∃ v, e = .returned v ∧ Rows.typesOnesSpec.post enc Tryz.prog Tryz.f7 false true false false W args v W' := by
  have hW' := hW
  obtain ⟨p, q, hA0, hV, rfl, hfz, hnd⟩ := hW
  have hA : DataW.TrodAll enc Tryz.prog W 0 (fun _ => true) true Tryz.f7.params.toList args.toList ds p := hA0
  rw [Tryz.params7] at hA hval
  obtain ⟨v0, vs0, d0, ds0, p0, q0, hargs, rfl, rfl, h0, r0⟩ := trodAll_cons hA
  obtain ⟨v1, vs1, d1, ds1, p1, q1, rfl, rfl, rfl, h1, r1⟩ := trodAll_cons r0
  obtain ⟨v2, vs2, d2, ds2, p2, q2, rfl, rfl, rfl, h2, r2⟩ := trodAll_cons r1
  obtain ⟨rfl, rfl, rfl⟩ := trodAll_nil r2
  obtain rfl : args = #[v0, v1, v2] := by cases args; simp_all
  obtain ⟨rfl, rfl⟩ := trodVars_none hV
  obtain ⟨ca, rfl⟩ := okWide_struct Tryz.underlying34 (hval 0 34 v0 rfl rfl)
  obtain ⟨cb, rfl⟩ := okWide_struct Tryz.underlying34 (hval 1 34 v1 rfl rfl)
  obtain ⟨ce, rfl⟩ := okWide_struct Tryz.underlying64 (hval 2 64 v2 rfl rfl)
  have k0 := h0
  have k1 := h1
  have k2 := h2
  have lt0 : ∀ x ∈ p0, x.block < W.heap.size := by obtain ⟨m, hm⟩ := k0; exact DataW.trod_lt m _ _ _ hm
  have lt1 : ∀ x ∈ p1, x.block < W.heap.size := by obtain ⟨m, hm⟩ := k1; exact DataW.trod_lt m _ _ _ hm
  have lt2 : ∀ x ∈ p2, x.block < W.heap.size := by obtain ⟨m, hm⟩ := k2; exact DataW.trod_lt m _ _ _ hm
  obtain ⟨n0, t0⟩ := h0
  obtain ⟨n1, t1⟩ := h1
  obtain ⟨n2, t2⟩ := h2
  obtain ⟨a, ra, fa, ga⟩ := rd_Y n0 _ _ t0
  obtain ⟨b, rb, fb, gb⟩ := rd_Y n1 _ _ t1
  obtain ⟨e, re, fe, ge⟩ := rd_E n2 _ _ t2
  clear hA0
  refine (law W ca cb ce a b e ra rb re fa fb fe ga ge).mono fun x W' ⟨hx, bel⟩ => ?_
  subst hx
  have hh : ({ W' with tape := W.tape } : World).heap = W'.heap := rfl
  have kb : ∀ may, W.keptBut W' may := fun may => ⟨(bel.frame may).1, (bel.frame may).2.1, (bel.frame may).2.2⟩
  refine ⟨_, rfl, _, _, _, [], p0 ++ (p1 ++ (p2 ++ [])), [], hW', trodAll_mk1 (shut_bool Tryz.underlying4 _), ?_, rfl, kb _, fun h => by cases h⟩
  exact DataW.TrodAll.of_heap hh (trodAll_cons_mk (Below.trod laidOut (by kernel_rfl) (of_decide_eq_true (by kernel_rfl)) k0 bel lt0) (trodAll_cons_mk (Below.trod laidOut (by kernel_rfl) (of_decide_eq_true (by kernel_rfl)) k1 bel lt1)
    (trodAll_cons_mk (Below.trod laidOut (by kernel_rfl) (of_decide_eq_true (by kernel_rfl)) k2 bel lt2) trodAll_mk0)))
end Go.Proofs.YtdjgjnahfekdhaaGreatDoor.typesOnes
