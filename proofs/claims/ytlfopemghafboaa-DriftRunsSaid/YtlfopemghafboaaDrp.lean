/- Plain facts on Run: what its window is, bind by bind, and how a choice is taken round. No condition beyond each theorem's own hypotheses. -/
import Derived.Test.YtlfopemghafboaaDru
namespace Go.Proofs.Ytlfopemghafboaa.D
open Go.RowKit Go.Proofs.YtlfopemghafboaaW.PrintWords Go.Proofs.YtlfopemghafboaaW.PrintLast Go.Proofs.YtlfopemghafboaaW.PrintMore
set_option linter.unusedVariables false
set_option linter.unusedSimpArgs false
/-- What a bind does to the least and the greatest time of an event. -/
def wst (ts : List Int) (e : Int) (b : S27) (q : Int × Int) : Int × Int :=
  if b.f1 = e ∧ b.f0 < e then (q.1, mn q.2 (wrap64 (rd ts b.f0 + b.f2))) else if b.f0 = e ∧ b.f1 < e then (mx q.1 (wrap64 (rd ts b.f1 - b.f2)), q.2) else q
def wfold (ts : List Int) (e : Int) (bs : List S27) : Nat → Int × Int
  | 0 => (0, 1000000000000000)
  | i + 1 => wst ts e (rd_T27 bs (i : Int)) (wfold ts e bs i)
theorem window_fold (bs : List S27) (ts : List Int) (N e : Nat) (hts : ts.length = e) (hI : ∀ b ∈ bs, InB N b) (hlen : bs.length ≤ 100000) : ∀ (d i n : Nat) (lo hi : Int), i + d = bs.length → 2 * d + 1 ≤ n → (lo, hi) = wfold ts e bs i → dr_window.l0 n ts (e : Int) lo hi bs (bs.length : Int) (i : Int) = some (wfold ts e bs bs.length) := by
  intro d
  induction d with
  | zero =>
    intro i n lo hi h1 h2 h3
    obtain ⟨m, rfl⟩ : ∃ m, n = m + 1 := ⟨n - 1, by omega⟩
    obtain rfl : i = bs.length := by omega
    simp only [dr_window.l0]
    rw [if_neg (by omega), ← h3]
  | succ d ih =>
    intro i n lo hi h1 h2 h3
    obtain ⟨m, rfl⟩ : ∃ m, n = m + 1 + 1 := ⟨n - 2, by omega⟩
    have hz : (0 ≤ (rd_T27 bs (i : Int)).f0 ∧ (rd_T27 bs (i : Int)).f0 < N) ∧ (0 ≤ (rd_T27 bs (i : Int)).f1 ∧ (rd_T27 bs (i : Int)).f1 < N) := in_rd hI i (by omega)
    have next : ∀ lo1 hi1 : Int, (lo1, hi1) = wst ts e (rd_T27 bs (i : Int)) (lo, hi) → dr_window.l0 m ts (e : Int) lo1 hi1 bs (bs.length : Int) (wrap64 ((i : Int) + 1)) = some (wfold ts e bs bs.length) := by
      intro lo1 hi1 g
      rw [wsucc i (by omega)]
      exact ih (i + 1) m lo1 hi1 (by omega) (by omega) (by rw [g, h3]; rfl)
    simp only [dr_window.l0]
    rw [if_pos (by omega), if_pos (by omega), if_pos (by omega)]
    by_cases hto : (rd_T27 bs (i : Int)).f1 = e
    · rw [if_pos hto]
      simp only [dr_window.j1]
      by_cases hfr : (rd_T27 bs (i : Int)).f0 < e
      · rw [if_pos (decide_eq_true hfr), if_pos hz.1.1, if_pos (by omega)]
        exact next _ _ (by unfold wst; rw [if_pos ⟨hto, hfr⟩])
      · rw [if_neg (by simpa using hfr)]
        have hn : wst ts e (rd_T27 bs (i : Int)) (lo, hi) = (lo, hi) := by
          unfold wst
          rw [if_neg (fun h => hfr h.2), if_neg (fun h => by omega)]
        by_cases hfe : (rd_T27 bs (i : Int)).f0 = e
        · rw [if_pos hfe, if_neg (by omega)]
          exact next _ _ hn.symm
        · rw [if_neg hfe]
          exact next _ _ hn.symm
    · rw [if_neg hto]
      simp only [dr_window.j1, Bool.false_eq_true, if_false]
      by_cases hfe : (rd_T27 bs (i : Int)).f0 = e
      · rw [if_pos hfe]
        by_cases hte : (rd_T27 bs (i : Int)).f1 < e
        · rw [if_pos hte, if_pos hz.2.1, if_pos (by omega)]
          exact next _ _ (by unfold wst; rw [if_neg (fun h => hto h.1), if_pos ⟨hfe, hte⟩])
        · rw [if_neg hte]
          exact next _ _ (by unfold wst; rw [if_neg (fun h => hto h.1), if_neg (fun h => hte h.2)])
      · rw [if_neg hfe]
        exact next _ _ (by unfold wst; rw [if_neg (fun h => hto h.1), if_neg (fun h => hfe h.1)])
/-- A choice taken round by adding once. -/
def pickR (c k : Int) : Int := if Int.tmod c k < 0 then wrap64 (Int.tmod c k + k) else Int.tmod c k
theorem pickR_eq (c k : Int) (h0 : 0 < k) (h1 : k ≤ 1000000000000001) : pickR c k = Int.tmod (wrap64 (Int.tmod c k + k)) k := by
  have h2 := tmod_bd c k h0
  unfold pickR
  generalize Int.tmod c k = t at h2
  rw [wrap64_id' _ (by omega) (by omega)]
  by_cases hn : t < 0
  · rw [if_pos hn, Int.tmod_eq_emod_of_nonneg (by omega), Int.emod_eq_of_lt (by omega) (by omega)]
  · rw [if_neg hn, Int.tmod_eq_emod_of_nonneg (by omega), Int.add_emod_right, Int.emod_eq_of_lt (by omega) (by omega)]
/-- One event of Run. -/
theorem run_step (bs : List S27) (ch : List Int) (N : Nat) (hI : ∀ b ∈ bs, InB N b) (hB : ∀ i : Nat, i < bs.length → -24000000000000 ≤ (rd_T27 bs i).f2 ∧ (rd_T27 bs i).f2 ≤ 24000000000000) (hlen : bs.length ≤ 100000) (hne : ∀ i : Nat, i < bs.length → (rd_T27 bs i).f0 ≠ (rd_T27 bs i).f1) (k : Nat) (ts : List Int) (h2 : SoFar bs ts) (lo hi : Int) (hw : (lo, hi) = wfold ts ts.length bs bs.length) :
    (hi < lo → runGo bs ch (k + 1) ts = some ([], false)) ∧ (¬ hi < lo → wrap64 (wrap64 (hi - lo) + 1) = hi - lo + 1 ∧ 0 < hi - lo + 1 ∧
      ∀ n : Int, (if ts.length < ch.length then n = pickR (rd ch (ts.length : Int)) (hi - lo + 1) else n = 0) → runGo bs ch (k + 1) ts = runGo bs ch k (ts ++ [wrap64 (lo + n)]) ∧ SoFar bs (ts ++ [wrap64 (lo + n)])) := by
  obtain ⟨lo', hi', g1, g2, g3, g4⟩ := window_val bs ts N ts.length rfl hI hB hlen h2.bd bs.length 0 (2 * bs.length + 3) 0 1000000000000000 (by omega) (by omega)
  have g5 := window_fold bs ts N ts.length rfl hI hlen bs.length 0 (2 * bs.length + 3) 0 1000000000000000 (by omega) (by omega) rfl
  rw [g1, ← hw] at g5
  injection g5 with g5
  injection g5 with e1 e2
  subst e1; subst e2
  have gf : dr_window.f (2 * bs.length + 3) bs ts (ts.length : Int) = some (lo', hi') := g1
  constructor
  · intro hlt
    rw [runGo, gf]
    simp only
    rw [if_pos hlt]
  · intro hlt
    have e0 : wrap64 (hi' - lo') = hi' - lo' := wrap64_id' _ (by omega) (by omega)
    have e1 : wrap64 (hi' - lo' + 1) = hi' - lo' + 1 := wrap64_id' _ (by omega) (by omega)
    refine ⟨by rw [e0, e1], by omega, fun n hn => ?_⟩
    rw [runGo, gf]
    simp only
    rw [if_neg hlt, e0, e1]
    by_cases hc : ts.length < ch.length
    · rw [if_pos hc] at hn
      rw [if_pos hc, if_neg (by omega)]
      have hp := pick_in (rd ch (ts.length : Int)) (hi' - lo' + 1) (by omega) (by omega)
      rw [← pickR_eq _ _ (by omega) (by omega), ← hn] at hp ⊢
      rw [wrap64_id' (lo' + n) (by omega) (by omega)]
      exact ⟨rfl, h2.next hI hne _ lo' hi' g2 g3 (by omega) (by omega) (fun k hk => g4 k (by omega) hk)⟩
    · rw [if_neg hc] at hn
      subst hn
      rw [if_neg hc, wrap64_id' (lo' + 0) (by omega) (by omega)]
      exact ⟨rfl, h2.next hI hne _ lo' hi' g2 g3 (by omega) (by omega) (fun k hk => g4 k (by omega) hk)⟩
theorem sofar_start {bs : List S27} {N : Nat} (hI : ∀ b ∈ bs, InB N b) (hne : ∀ i : Nat, i < bs.length → (rd_T27 bs i).f0 ≠ (rd_T27 bs i).f1) : SoFar bs [0] := by
  refine ⟨by simp, rfl, fun x h0 h1 => ?_, fun i hi h0 h1 => ?_⟩
  · have : x = 0 := by simp at h1; omega
    subst this
    show 0 ≤ (0 : Int) ∧ (0 : Int) ≤ _
    omega
  · have hz : (0 ≤ (rd_T27 bs (i : Int)).f0 ∧ (rd_T27 bs (i : Int)).f0 < N) ∧ (0 ≤ (rd_T27 bs (i : Int)).f1 ∧ (rd_T27 bs (i : Int)).f1 < N) := in_rd hI i hi
    have := hne i hi
    simp at h0 h1
    omega
end Go.Proofs.Ytlfopemghafboaa.D
