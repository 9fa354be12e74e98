/- Contracts of functions that the law reaches, each a walk through its code. No condition beyond each theorem's own hypotheses. -/
import Derived.Test.YtlfopemghafboaaDh5
import Derived.WalkSpells
import Derived.Handy
import Derived.StillTailTactics
import Derived.IntWalk
namespace Go.Proofs.Ytlfopemghafboaa.D
open Go.RowKit Go.Proofs.YtlfopemghafboaaW.PrintWords Go.Proofs.YtlfopemghafboaaW.PrintLast Go.Proofs.YtlfopemghafboaaW.PrintMore
set_option linter.unusedVariables false
set_option linter.unusedSimpArgs false

def firstBs (i : Int) : List S27 := if i = 0 then [] else [⟨0, i, 0⟩, ⟨i, 0, 0⟩]
def postBs (i : Int) (e : S80) : List S27 := [⟨e.f2, i, e.f5⟩, ⟨i, e.f2, wrap64 (-e.f4)⟩]
set_option maxHeartbeats 1600000 in
set_option maxRecDepth 100000 in
theorem first_binds (e : S80) (i : Int) (w : World) : Calls Try.prog 112 #[.agg #[.int .i64 e.f0, .int .i64 e.f1, .int .i64 e.f2, .int .i64 e.f3, .int .i64 e.f4, .int .i64 e.f5], .int .i64 i] w fun e' w' => ∃ v, e' = .returned v ∧ Kd.R k27 27 w' w.heap.size (fun _ => True) v (firstBs i) ∧ Below w.heap.size w w' := by
  unfold firstBs
  by_cases h : i = 0
  · rw [if_pos h]
    have hb : (i == 0) = true := by simpa using h
    clear h
    go_enter Try.func112, Try.ntmps112
    go_wp2_with fail
    go_ret
    exact ⟨_, rfl, Kd.R_nil _ _ _ _ _, below_alloc (Below.refl _ _) _⟩
  · rw [if_neg h]
    have hb : (i == 0) = false := by simpa using h
    clear h
    go_enter Try.func112, Try.ntmps112
    go_wp2_with (first | ((with_reducible refine gate_dst (N := 11) rfl ?_); refine Kd.R_lit k27 (w0 := w) w.heap.size 27 ?hg (N := 11) ?hd (xs := ([(⟨0, i, 0⟩ : S27), (⟨i, 0, 0⟩ : S27)] : List (S27))) (inner := [.int .i64 0, .int .i64 i, .int .i64 0, .int .i64 i, .int .i64 0, .int .i64 0]) (ok := fun _ => True) (okp := fun _ => True) ?hr ?hp (fun _ hk => hk) trivial (below_alloc (Below.refl _ _) _) (by simp) (by simp) ?_; (case hd => rfl); (case hg => rfl); (case hr => first | (go_simp; done) | (go_simp; rfl)); (case hp => exact (Reps.c3 (show Kd.M k27 _ _ _ (⟨0, i, 0⟩ : S27) [.int .i64 0, .int .i64 i, .int .i64 0] from (k27_mkM _ _ _ (⟨0, i, 0⟩ : S27))) (Reps.c3 (show Kd.M k27 _ _ _ (⟨i, 0, 0⟩ : S27) [.int .i64 i, .int .i64 0, .int .i64 0] from (k27_mkM _ _ _ (⟨i, 0, 0⟩ : S27))) (Reps.none _ _)))); intro v1 w1 ho hb1 hg1 hn1; have HO := Aside0.mk ho; have HB := Aside0.mk hb1; clear ho hb1 hg1 hn1))
    go_ret
    exact ⟨_, rfl, HO.out, HB.out⟩
set_option maxHeartbeats 1600000 in
set_option maxRecDepth 100000 in
theorem timer_binds (e : S80) (i : Int) (w : World) : Calls Try.prog 114 #[.agg #[.int .i64 e.f0, .int .i64 e.f1, .int .i64 e.f2, .int .i64 e.f3, .int .i64 e.f4, .int .i64 e.f5], .int .i64 i] w fun e' w' => ∃ v, e' = .returned v ∧ Kd.R k27 27 w' w.heap.size (fun _ => True) v [] ∧ Below w.heap.size w w' := by
  go_enter Try.func114, Try.ntmps114
  go_wp2_with fail
  go_ret
  exact ⟨_, rfl, Kd.R_nil _ _ _ _ _, below_alloc (Below.refl _ _) _⟩
set_option maxHeartbeats 1600000 in
set_option maxRecDepth 100000 in
theorem post_binds (e : S80) (i : Int) (w : World) : Calls Try.prog 116 #[.agg #[.int .i64 e.f0, .int .i64 e.f1, .int .i64 e.f2, .int .i64 e.f3, .int .i64 e.f4, .int .i64 e.f5], .int .i64 i] w fun e' w' => ∃ v, e' = .returned v ∧ Kd.R k27 27 w' w.heap.size (fun _ => True) v (postBs i e) ∧ Below w.heap.size w w' := by
  unfold postBs
  obtain ⟨f0, f1, f2, f3, f4, f5⟩ := e
  simp only
  go_enter Try.func116, Try.ntmps116
  go_wp2_with (first | ((with_reducible refine gate_dst (N := 22) rfl ?_); refine Kd.R_lit k27 (w0 := w) w.heap.size 27 ?hg (N := 22) ?hd (xs := ([(⟨f2, i, f5⟩ : S27), (⟨i, f2, wrap64 (-f4)⟩ : S27)] : List (S27))) (inner := [.int .i64 f2, .int .i64 i, .int .i64 f5, .int .i64 i, .int .i64 f2, .int .i64 (wrap64 (-f4))]) (ok := fun _ => True) (okp := fun _ => True) ?hr ?hp (fun _ hk => hk) trivial (below_alloc (Below.refl _ _) _) (by simp) (by simp) ?_; (case hd => rfl); (case hg => rfl); (case hr => first | (go_simp; done) | (go_simp; rfl)); (case hp => exact (Reps.c3 (show Kd.M k27 _ _ _ (⟨f2, i, f5⟩ : S27) [.int .i64 f2, .int .i64 i, .int .i64 f5] from (k27_mkM _ _ _ (⟨f2, i, f5⟩ : S27))) (Reps.c3 (show Kd.M k27 _ _ _ (⟨i, f2, wrap64 (-f4)⟩ : S27) [.int .i64 i, .int .i64 f2, .int .i64 (wrap64 (-f4))] from (k27_mkM _ _ _ (⟨i, f2, wrap64 (-f4)⟩ : S27))) (Reps.none _ _)))); intro v1 w1 ho hb1 hg1 hn1; have HO := Aside0.mk ho; have HB := Aside0.mk hb1; clear ho hb1 hg1 hn1))
  go_ret
  exact ⟨_, rfl, HO.out, HB.out⟩
def upR (x f : Int) : Int := wrap64 (Int.tdiv (wrap64 (wrap64 (x + f) - 1)) f)
set_option maxHeartbeats 1600000 in
theorem up_any (x f : Int) (hf : f ≠ 0) (w : World) : Calls Try.prog 74 #[.int .i64 x, .int .i64 f] w fun e w' => e = .returned (.int .i64 (upR x f)) ∧ w' = w := by
  have h0 : (f == 0) = false := by simpa using hf
  unfold upR
  go_enter Try.func74, Try.ntmps74
  go_wp2_with fail
  go_ret
  exact ⟨rfl, rfl⟩
end Go.Proofs.Ytlfopemghafboaa.D
