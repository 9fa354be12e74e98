/- Contracts of functions that the law reaches, each a walk through its code. No condition beyond each theorem's own hypotheses. -/
import Derived.Test.YtlfopemghafboaaDh0
import Derived.WalkSpells
import Derived.Handy
namespace Go.Proofs.Ytlfopemghafboaa.D
open Go.RowKit Go.Proofs.YtlfopemghafboaaW.PrintWords Go.Proofs.YtlfopemghafboaaW.PrintLast Go.Proofs.YtlfopemghafboaaW.PrintMore
set_option linter.unusedVariables false
set_option linter.unusedSimpArgs false

def betweenB (a lo hi : Int) : Bool := decide (lo ≤ a) && decide (a ≤ hi)
set_option maxHeartbeats 400000 in
theorem between_any (a lo hi : Int) (w : World) : Calls Try.prog 59 #[.int .i64 a, .int .i64 lo, .int .i64 hi] w fun e w' => e = .returned (.bool (betweenB a lo hi)) ∧ w' = w := by
  unfold betweenB
  by_cases h1 : lo ≤ a
  · have h1b : decide (lo ≤ a) = true := by simpa using h1
    by_cases h2 : a ≤ hi
    · have h2b : decide (a ≤ hi) = true := by simpa using h2
      go_enter Try.func59, Try.ntmps59
      go_wp2
      go_ret
      exact ⟨by first | rfl | (rw [h1b, h2b]; rfl), rfl⟩
    · have h2b : decide (a ≤ hi) = false := by simpa using h2
      go_enter Try.func59, Try.ntmps59
      go_wp2
      go_ret
      exact ⟨by first | rfl | (rw [h1b, h2b]; rfl), rfl⟩
  · have h1b : decide (lo ≤ a) = false := by simpa using h1
    go_enter Try.func59, Try.ntmps59
    go_wp2
    go_ret
    exact ⟨by first | rfl | (rw [h1b]; rfl), rfl⟩
def rateOK (r : S42) : Bool := decide (1 ≤ r.f0) && decide (r.f0 ≤ r.f1) && decide (r.f1 ≤ 1000000)
set_option maxHeartbeats 400000 in
theorem isRate_any (a b : Int) (w : World) : Calls Try.prog 73 #[.agg #[.int .i64 a, .int .i64 b]] w fun e w' => e = .returned (.bool (rateOK ⟨a, b⟩)) ∧ Below w.heap.size w w' := by
  have hf : dr_isRate.f a b = some (rateOK ⟨a, b⟩) := by
    unfold dr_isRate.f rateOK
    simp only [ge_iff_le]
    by_cases h1 : 1 ≤ a <;> by_cases h2 : a ≤ b <;> simp [h1, h2]
  exact (dr_isRate.calls a b _ w hf).mono fun e w' h => ⟨h.1, h.2⟩
set_option maxHeartbeats 400000 in
theorem notRate (r : S42) (w W : World) : Calls Try.prog 83 #[.agg #[.int .i64 r.f0, .int .i64 r.f1]] W fun e W' => e = .returned (.bool (!rateOK r)) ∧ Below W.heap.size W W' := by
  obtain ⟨a, b⟩ := r
  simp only
  go_enter Try.func83, Try.ntmps83
  go_wp2_with fail
  refine (isRate_any _ _ _).mono ?_
  rintro e w1 ⟨rfl, hb⟩
  have HB := Aside0.mk (below_step (below_alloc (Below.refl _ _) _) hb)
  clear hb
  go_wp2_with fail
  go_ret
  exact ⟨rfl, HB.out⟩
def evV (e : S80) : Value := .agg #[.int .i64 e.f0, .int .i64 e.f1, .int .i64 e.f2, .int .i64 e.f3, .int .i64 e.f4, .int .i64 e.f5]
def causeV (e : S80) : Value := if e.f1 = 1 then .iface 130 (evV e) else if e.f1 = 2 then .iface 131 (evV e) else if e.f1 = 3 then .iface 132 (evV e) else .nilIface
set_option maxHeartbeats 400000 in
theorem causeOf_any (e : S80) (w : World) : Calls Try.prog 84 #[.agg #[.int .i64 e.f0, .int .i64 e.f1, .int .i64 e.f2, .int .i64 e.f3, .int .i64 e.f4, .int .i64 e.f5]] w fun e' w' => e' = .returned (causeV e) ∧ Below w.heap.size w w' := by
  obtain ⟨f0, f1, f2, f3, f4, f5⟩ := e
  unfold causeV evV
  simp only
  by_cases h1 : f1 = 1
  · rw [if_pos h1]
    have hb : (f1 == 1) = true := by simpa using h1
    clear h1
    go_enter Try.func84, Try.ntmps84
    go_wp2_with fail
    go_ret
    exact ⟨rfl, below_alloc (Below.refl _ _) _⟩
  · rw [if_neg h1]
    have hb : (f1 == 1) = false := by simpa using h1
    clear h1
    by_cases h2 : f1 = 2
    · rw [if_pos h2]
      have hb2 : (f1 == 2) = true := by simpa using h2
      clear h2
      go_enter Try.func84, Try.ntmps84
      go_wp2_with fail
      go_ret
      exact ⟨rfl, below_alloc (Below.refl _ _) _⟩
    · rw [if_neg h2]
      have hb2 : (f1 == 2) = false := by simpa using h2
      clear h2
      by_cases h3 : f1 = 3
      · rw [if_pos h3]
        have hb3 : (f1 == 3) = true := by simpa using h3
        clear h3
        go_enter Try.func84, Try.ntmps84
        go_wp2_with fail
        go_ret
        exact ⟨rfl, below_alloc (Below.refl _ _) _⟩
      · rw [if_neg h3]
        have hb3 : (f1 == 3) = false := by simpa using h3
        clear h3
        go_enter Try.func84, Try.ntmps84
        go_wp2_with fail
        go_ret
        exact ⟨rfl, below_alloc (Below.refl _ _) _⟩
def firstOK (e : S80) : Bool := (e.f2 == 0) && (e.f3 == 0) && (e.f4 == 0) && (e.f5 == 0)
set_option maxHeartbeats 1600000 in
theorem first_right (e : S80) (p : Value) (i : Int) (w : World) : Calls Try.prog 113 #[.agg #[.int .i64 e.f0, .int .i64 e.f1, .int .i64 e.f2, .int .i64 e.f3, .int .i64 e.f4, .int .i64 e.f5], p, .int .i64 i] w fun e' w' => e' = .returned (.bool (firstOK e)) ∧ Below w.heap.size w w' := by
  obtain ⟨f0, f1, f2, f3, f4, f5⟩ := e
  unfold firstOK
  simp only
  cases h2 : (f2 == 0) <;> cases h3 : (f3 == 0) <;> cases h4 : (f4 == 0) <;> cases h5 : (f5 == 0)
  all_goals
    go_enter Try.func113, Try.ntmps113
    go_wp2_with fail
    go_ret
    exact ⟨rfl, below_alloc (Below.refl _ _) _⟩
def postOK (i : Int) (e : S80) : Bool := betweenB e.f2 0 (i - 1) && (e.f3 == 0) && decide (0 ≤ e.f4) && betweenB e.f5 e.f4 1000000
set_option maxHeartbeats 3200000 in
theorem post_right (e : S80) (p : Value) (i : Int) (hi0 : 0 ≤ i) (hi1 : i ≤ 1000) (w : World) : Calls Try.prog 117 #[.agg #[.int .i64 e.f0, .int .i64 e.f1, .int .i64 e.f2, .int .i64 e.f3, .int .i64 e.f4, .int .i64 e.f5], p, .int .i64 i] w fun e' w' => e' = .returned (.bool (postOK i e)) ∧ Below w.heap.size w w' := by
  obtain ⟨f0, f1, f2, f3, f4, f5⟩ := e
  unfold postOK
  simp only
  cases h3 : (f3 == 0) <;> cases h4 : decide (0 ≤ f4) <;> cases hb1 : betweenB f2 0 (i - 1) <;> cases hb2 : betweenB f5 f4 1000000
  all_goals
    have C1 := Aside0.mk hb1
    have C2 := Aside0.mk hb2
    clear hb1 hb2
    go_enter Try.func117, Try.ntmps117
    go_wp2_with (go_at_call 59; refine (between_any _ _ _ _).mono ?_; rintro e' w' ⟨rfl, rfl⟩; first | rw [C1.out] | rw [C2.out])
    go_ret
    exact ⟨rfl, below_alloc (Below.refl _ _) _⟩
end Go.Proofs.Ytlfopemghafboaa.D
