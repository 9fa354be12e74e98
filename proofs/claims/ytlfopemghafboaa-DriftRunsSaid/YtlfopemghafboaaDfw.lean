/- Plain facts on the reference's table of shortest chains: what a round of it changes, and that it tells the least sums. No condition beyond each theorem's own hypotheses. -/
import Derived.Test.YtlfopemghafboaaDbl
namespace Go.Proofs.Ytlfopemghafboaa.D
open Go.RowKit Go.Proofs.YtlfopemghafboaaW.PrintWords Go.Proofs.YtlfopemghafboaaW.PrintLast Go.Proofs.YtlfopemghafboaaW.PrintMore
set_option linter.unusedVariables false
set_option linter.unusedSimpArgs false
/-- What stands for no way. -/
def noW : Int := 4000000000000000
/-- A chain whose events on the way are ahead of k. -/
def FM (l : List S27) (k : Int) : Int → Int → List Int → Prop
  | a, b, [] => a = b
  | a, b, i :: r => (0 ≤ i ∧ i < l.length) ∧ (rd_T27 l i).f0 = a ∧ ((r = [] ∧ (rd_T27 l i).f1 = b) ∨ ((rd_T27 l i).f1 < k ∧ FM l k (rd_T27 l i).f1 b r))
theorem FM_mono {l : List S27} {k k' : Int} (hk : k ≤ k') (ps : List Int) (a b : Int) (h : FM l k a b ps) : FM l k' a b ps := by
  induction ps generalizing a with
  | nil => exact h
  | cons i r ih => exact ⟨h.1, h.2.1, h.2.2.imp id (fun g => ⟨by omega, ih _ g.2⟩)⟩
theorem FM_FC {l : List S27} {k : Int} (ps : List Int) (a b : Int) (h : FM l k a b ps) : FC l a b ps := by
  induction ps generalizing a with
  | nil => exact h
  | cons i r ih =>
    refine ⟨h.1, h.2.1, ?_⟩
    rcases h.2.2 with ⟨rfl, e⟩ | g
    · exact e
    · exact ih _ g.2
theorem FC_FM {l : List S27} {n : Nat} (hI : ∀ b ∈ l, InB n b) (ps : List Int) (a b : Int) (h : FC l a b ps) : FM l n a b ps := by
  induction ps generalizing a with
  | nil => exact h
  | cons i r ih =>
    obtain ⟨m, rfl⟩ : ∃ m : Nat, i = m := ⟨i.toNat, by have := h.1; omega⟩
    exact ⟨h.1, h.2.1, .inr ⟨(in_rd hI m (by have := h.1; omega)).2.2, ih _ h.2.2⟩⟩
theorem FM_append {l : List S27} {k : Int} (ps qs : List Int) (a c b : Int) (hc : c < k) (h1 : FM l k a c ps) (h2 : FM l k c b qs) : FM l k a b (ps ++ qs) := by
  induction ps generalizing a with
  | nil => simp only [FM] at h1; subst h1; exact h2
  | cons i r ih =>
    refine ⟨h1.1, h1.2.1, .inr ?_⟩
    rcases h1.2.2 with ⟨rfl, e⟩ | g
    · rw [e]; exact ⟨hc, h2⟩
    · exact ⟨g.1, ih _ g.2⟩
/-- A chain cut behind its first m binds, where some are left. -/
theorem FM_cut {l : List S27} {k : Int} (m : Nat) : ∀ (ps : List Int) (a b : Int), FM l k a b ps → m < ps.length → FM l k a (if m = 0 then a else (rd_T27 l (rd ps ((m : Int) - 1))).f1) (ps.take m) ∧ FM l k (if m = 0 then a else (rd_T27 l (rd ps ((m : Int) - 1))).f1) b (ps.drop m) ∧ (m ≠ 0 → (rd_T27 l (rd ps ((m : Int) - 1))).f1 < k) := by
  induction m with
  | zero => intro ps a b h hl; exact ⟨rfl, h, fun h => absurd rfl h⟩
  | succ m ih =>
    intro ps a b h hl
    cases ps with
    | nil => simp at hl
    | cons i r =>
      have hr : r ≠ [] := by intro e; subst e; simp at hl
      rcases h.2.2 with ⟨e, _⟩ | ⟨g1, g2⟩
      · exact absurd e hr
      · obtain ⟨q1, q2, q3⟩ := ih r _ b g2 (by simpa using hl)
        rw [if_neg (by omega)]
        have e : rd (i :: r) (((m + 1 : Nat) : Int) - 1) = if m = 0 then i else rd r ((m : Int) - 1) := by
          by_cases h0 : m = 0
          · subst h0; rfl
          · rw [if_neg h0]
            unfold rd
            rw [show (((m + 1 : Nat) : Int) - 1).toNat = ((m : Int) - 1).toNat + 1 by omega]
            rfl
        rw [e]
        by_cases h0 : m = 0
        · subst h0
          rw [if_pos rfl] at q1 q2 ⊢
          exact ⟨⟨h.1, h.2.1, .inl ⟨rfl, rfl⟩⟩, q2, fun _ => g1⟩
        · rw [if_neg h0] at q1 q2 ⊢
          exact ⟨⟨h.1, h.2.1, .inr ⟨g1, q1⟩⟩, q2, fun _ => q3 h0⟩
/-- What the table says once the events ahead of k have been looked at. -/
structure FW (l : List S27) (n : Nat) (k : Int) (D : Int → Int → Int) : Prop where
  tri : ∀ p, 0 ≤ p → p < k → ∀ i j : Int, (0 ≤ i ∧ i < n) → (0 ≤ j ∧ j < n) → D i p ≠ noW → D p j ≠ noW → D i j ≠ noW ∧ D i j ≤ D i p + D p j
  le : ∀ i : Nat, i < l.length → D (rd_T27 l (i : Int)).f0 (rd_T27 l (i : Int)).f1 ≠ noW ∧ D (rd_T27 l (i : Int)).f0 (rd_T27 l (i : Int)).f1 ≤ (rd_T27 l (i : Int)).f2
  diag : ∀ i : Int, 0 ≤ i → i < n → D i i = 0
  real : ∀ i j : Int, (0 ≤ i ∧ i < n) → (0 ≤ j ∧ j < n) → D i j ≠ noW → ∃ ps, FM l k i j ps ∧ wsum l ps = D i j
theorem FW.min {l : List S27} {n : Nat} {k : Int} {D : Int → Int → Int} (h : FW l n k D) (hI : ∀ b ∈ l, InB n b) (hk : k ≤ n) (ps : List Int) (a b : Int) (ha : 0 ≤ a ∧ a < n) (hb : 0 ≤ b ∧ b < n) (hp : FM l k a b ps) : D a b ≠ noW ∧ D a b ≤ wsum l ps := by
  induction ps generalizing a with
  | nil =>
    simp only [FM] at hp; subst hp
    rw [h.diag a ha.1 ha.2]
    exact ⟨by decide, by simp [wsum]⟩
  | cons i r ih =>
    obtain ⟨⟨i0, i1⟩, e, hc⟩ := hp
    obtain ⟨m, rfl⟩ : ∃ m : Nat, i = m := ⟨i.toNat, by omega⟩
    have hin := in_rd hI m (by omega)
    have hle := h.le m (by omega)
    rw [e] at hle
    simp only [wsum]
    rcases hc with ⟨rfl, e2⟩ | ⟨g1, g2⟩
    · rw [e2] at hle
      exact ⟨hle.1, by simp only [wsum]; omega⟩
    · obtain ⟨q1, q2⟩ := ih _ hin.2 g2
      obtain ⟨t1, t2⟩ := h.tri _ hin.2.1 g1 a b ha hb hle.1 q1
      exact ⟨t1, by omega⟩
/-- A chain with no more binds than events on the way, and one. -/
theorem FW.short {l : List S27} {n : Nat} {k : Nat} {D : Int → Int → Int} (h : FW l n k D) (hI : ∀ b ∈ l, InB n b) (hk : k ≤ n) (N : Nat) : ∀ (ps : List Int) (a b : Int), ps.length ≤ N → FM l k a b ps → ∃ qs, FM l k a b qs ∧ qs.length ≤ k + 1 ∧ wsum l qs ≤ wsum l ps := by
  induction N with
  | zero =>
    intro ps a b hN hp
    exact ⟨ps, hp, by omega, Int.le_refl _⟩
  | succ N ih =>
    intro ps a b hN hp
    by_cases hs : ps.length ≤ k + 1
    · exact ⟨ps, hp, hs, Int.le_refl _⟩
    · have hv : ∀ m : Nat, m ≤ k → 0 ≤ (rd_T27 l (rd ps (m : Int))).f1 ∧ (rd_T27 l (rd ps (m : Int))).f1 < (k : Int) := by
        intro m hm
        obtain ⟨c1, c2, c3⟩ := FM_cut (m + 1) ps a b hp (by omega)
        have e : (((m + 1 : Nat) : Int) - 1) = (m : Int) := by omega
        rw [e] at c3
        have hmem : rd ps (m : Int) ∈ ps := by
          have e : rd ps (m : Int) = ps[m] := by simp [rd, List.getD_eq_getElem?_getD, List.getElem?_eq_getElem (show m < ps.length by omega)]
          rw [e]; exact List.getElem_mem _
        have hr := FC_mem ps a b (FM_FC ps a b hp) _ hmem
        obtain ⟨x, hx⟩ : ∃ x : Nat, rd ps (m : Int) = x := ⟨(rd ps (m : Int)).toNat, by omega⟩
        rw [hx] at hr c3 ⊢
        exact ⟨(in_rd hI x (by omega)).2.1, c3 (by omega)⟩
      obtain ⟨i, j, hij, hj, hf⟩ := pigeon k (fun m => (rd_T27 l (rd ps (m : Int))).f1) hv
      obtain ⟨c1, c2, c3⟩ := FM_cut (j + 1) ps a b hp (by omega)
      rw [if_neg (by omega), show (((j + 1 : Nat) : Int) - 1) = (j : Int) by omega] at c1 c2
      obtain ⟨d1, d2, d3⟩ := FM_cut (i + 1) (ps.take (j + 1)) a _ c1 (by rw [List.length_take]; omega)
      have e1 : rd (ps.take (j + 1)) (i : Int) = rd ps (i : Int) := by
        unfold rd
        rw [List.getD_eq_getElem?_getD, List.getD_eq_getElem?_getD, List.getElem?_take]
        rw [if_pos (by omega)]
      rw [if_neg (by omega), show (((i + 1 : Nat) : Int) - 1) = (i : Int) by omega, e1] at d1 d2
      have hi0 := hv i (by omega)
      have hf : (rd_T27 l (rd ps (i : Int))).f1 = (rd_T27 l (rd ps (j : Int))).f1 := hf
      rw [← hf] at d2 c2
      have hcy := h.min hI (by omega) _ _ _ ⟨hi0.1, by omega⟩ ⟨hi0.1, by omega⟩ d2
      rw [h.diag _ hi0.1 (by omega)] at hcy
      have hsum : wsum l ps = wsum l ((ps.take (j + 1)).take (i + 1)) + wsum l ((ps.take (j + 1)).drop (i + 1)) + wsum l (ps.drop (j + 1)) := by
        rw [← wsum_append, List.take_append_drop, ← wsum_append, List.take_append_drop]
      have hnew := FM_append _ _ a _ b hi0.2 d1 c2
      obtain ⟨qs, q1, q2, q3⟩ := ih _ a b (by simp only [List.length_append, List.length_take, List.length_drop]; omega) hnew
      rw [wsum_append] at q3
      exact ⟨qs, q1, q2, by omega⟩
theorem FW.bound {l : List S27} {n : Nat} {k : Nat} {D : Int → Int → Int} (h : FW l n k D) (hI : ∀ b ∈ l, InB n b) (hk : k ≤ n) (hn : n ≤ 24) (hB : ∀ i : Nat, i < l.length → -24000000000000 ≤ (rd_T27 l i).f2 ∧ (rd_T27 l i).f2 ≤ 24000000000000) (i j : Int) (hi : 0 ≤ i ∧ i < n) (hj : 0 ≤ j ∧ j < n) (hd : D i j ≠ noW) : -600000000000000 ≤ D i j ∧ D i j ≤ 600000000000000 := by
  obtain ⟨ps, p1, p2⟩ := h.real i j hi hj hd
  obtain ⟨qs, q1, q2, q3⟩ := h.short hI hk ps.length ps i j (Nat.le_refl _) p1
  have hm := (h.min hI (by omega) qs i j hi hj q1).2
  have hw := wsum_bd hB qs i j (FM_FC _ _ _ q1)
  have : (qs.length : Int) * 24000000000000 ≤ 25 * 24000000000000 := Int.mul_le_mul_of_nonneg_right (by omega) (by omega)
  omega
/-- A round of the table. -/
def relW (k : Int) (D : Int → Int → Int) (i j : Int) : Int := if D i k = noW then D i j else if D k j ≠ noW ∧ D i k + D k j < D i j then D i k + D k j else D i j
section
variable {l : List S27} {n : Nat} {k : Nat} {D : Int → Int → Int}
theorem relW_le (k : Int) (D : Int → Int → Int) (i j : Int) : relW k D i j ≤ D i j := by unfold relW; split; omega; split <;> omega
theorem relW_cases (k : Int) (D : Int → Int → Int) (i j : Int) : relW k D i j = D i j ∨ (D i k ≠ noW ∧ D k j ≠ noW ∧ D i k + D k j < D i j ∧ relW k D i j = D i k + D k j) := by
  unfold relW
  by_cases h1 : D i k = noW
  · rw [if_pos h1]; exact .inl rfl
  · rw [if_neg h1]
    by_cases h2 : D k j ≠ noW ∧ D i k + D k j < D i j
    · rw [if_pos h2]; exact .inr ⟨h1, h2.1, h2.2, rfl⟩
    · rw [if_neg h2]; exact .inl rfl
theorem relW_via (k : Int) (D : Int → Int → Int) (i j : Int) (h1 : D i k ≠ noW) (h2 : D k j ≠ noW) : relW k D i j ≤ D i k + D k j := by
  unfold relW
  rw [if_neg h1]
  by_cases h3 : D k j ≠ noW ∧ D i k + D k j < D i j
  · rw [if_pos h3]; omega
  · rw [if_neg h3]
    have : ¬ D i k + D k j < D i j := fun h => h3 ⟨h2, h⟩
    omega
/-- The table once k has been looked at, where no event is ahead of itself. -/
theorem FW.step (h : FW l n k D) (hI : ∀ b ∈ l, InB n b) (hk : k < n) (hn : n ≤ 24) (hB : ∀ i : Nat, i < l.length → -24000000000000 ≤ (rd_T27 l i).f2 ∧ (rd_T27 l i).f2 ≤ 24000000000000) :
    (∀ i j : Int, (0 ≤ i ∧ i < n) → (0 ≤ j ∧ j < n) → relW k D i j ≠ noW → ∃ ps, FM l ((k + 1 : Nat) : Int) i j ps ∧ wsum l ps = relW k D i j) ∧ ((∀ i : Int, 0 ≤ i → i < n → 0 ≤ relW k D i i) → FW l n ((k + 1 : Nat) : Int) (relW k D)) := by
  have bd := fun i j hi hj hd => h.bound hI (by omega) hn hB i j hi hj hd
  have hkn : (0 : Int) ≤ k ∧ (k : Int) < n := by omega
  have nW : noW = 4000000000000000 := rfl
  have small : ∀ i j : Int, (0 ≤ i ∧ i < n) → (0 ≤ j ∧ j < n) → relW k D i j ≠ noW → relW k D i j ≤ 1200000000000000 := by
    intro i j hi hj hd
    rcases relW_cases k D i j with e | ⟨h1, h2, _, e⟩
    · rw [e] at hd ⊢; have := bd i j hi hj hd; omega
    · have := bd i k hi hkn h1; have := bd k j hkn hj h2; omega
  have hreal : ∀ i j : Int, (0 ≤ i ∧ i < n) → (0 ≤ j ∧ j < n) → relW k D i j ≠ noW → ∃ ps, FM l ((k + 1 : Nat) : Int) i j ps ∧ wsum l ps = relW k D i j := by
    intro i j hi hj hd
    rcases relW_cases k D i j with e | ⟨h1, h2, _, e⟩
    · rw [e] at hd ⊢
      obtain ⟨ps, p1, p2⟩ := h.real i j hi hj hd
      exact ⟨ps, FM_mono (by omega) _ _ _ p1, p2⟩
    · obtain ⟨ps, p1, p2⟩ := h.real i k hi hkn h1
      obtain ⟨qs, q1, q2⟩ := h.real k j hkn hj h2
      refine ⟨ps ++ qs, FM_append _ _ _ (k : Int) _ (by omega) (FM_mono (by omega) _ _ _ p1) (FM_mono (by omega) _ _ _ q1), ?_⟩
      rw [wsum_append, p2, q2, e]
  refine ⟨hreal, fun hpos => ?_⟩
  have hkk := h.diag k hkn.1 hkn.2
  -- what is told stays told
  have ne_of_le : ∀ i j : Int, (0 ≤ i ∧ i < n) → (0 ≤ j ∧ j < n) → ∀ x : Int, x ≤ 1200000000000000 → relW k D i j ≤ x → relW k D i j ≠ noW := by
    intro i j hi hj x hx hle; omega
  have colk : ∀ i : Int, (0 ≤ i ∧ i < n) → relW k D i k = D i k := by
    intro i hi
    rcases relW_cases k D i k with e | ⟨_, _, h3, e⟩
    · exact e
    · omega
  have rowk : ∀ j : Int, (0 ≤ j ∧ j < n) → relW k D k j = D k j := by
    intro j hj
    rcases relW_cases k D k j with e | ⟨_, _, h3, e⟩
    · exact e
    · omega
  refine ⟨?_, ?_, ?_, hreal⟩
  · intro p hp0 hp1 i j hi hj hip hpj
    by_cases hpk : p = k
    · subst hpk
      rw [colk i hi] at hip ⊢
      rw [rowk j hj] at hpj ⊢
      have hv := relW_via k D i j hip hpj
      have b1 := bd i k hi hkn hip
      have b2 := bd k j hkn hj hpj
      exact ⟨ne_of_le i j hi hj _ (by omega) hv, hv⟩
    · have hpr : 0 ≤ p ∧ p < n := by omega
      have hlt : p < k := by omega
      rcases relW_cases k D i p with e1 | ⟨a1, a2, a3, e1⟩
      · rcases relW_cases k D p j with e2 | ⟨c1, c2, c3, e2⟩
        · rw [e1] at hip ⊢; rw [e2] at hpj ⊢
          obtain ⟨t1, t2⟩ := h.tri p hp0 hlt i j hi hj hip hpj
          have hv := relW_le k D i j
          have b0 := bd i j hi hj t1
          exact ⟨ne_of_le i j hi hj _ (by omega) hv, by omega⟩
        · rw [e1] at hip ⊢; rw [e2]
          obtain ⟨t1, t2⟩ := h.tri p hp0 hlt i k hi hkn hip c1
          have hv := relW_via k D i j t1 c2
          have b1 := bd i k hi hkn t1
          have b2 := bd k j hkn hj c2
          exact ⟨ne_of_le i j hi hj _ (by omega) hv, by omega⟩
      · rcases relW_cases k D p j with e2 | ⟨c1, c2, c3, e2⟩
        · rw [e1]; rw [e2] at hpj ⊢
          obtain ⟨t1, t2⟩ := h.tri p hp0 hlt k j hkn hj a2 hpj
          have hv := relW_via k D i j a1 t1
          have b1 := bd i k hi hkn a1
          have b2 := bd k j hkn hj t1
          exact ⟨ne_of_le i j hi hj _ (by omega) hv, by omega⟩
        · rw [e1, e2]
          obtain ⟨t1, t2⟩ := h.tri p hp0 hlt k k hkn hkn a2 c1
          have hv := relW_via k D i j a1 c2
          have b1 := bd i k hi hkn a1
          have b2 := bd k j hkn hj c2
          exact ⟨ne_of_le i j hi hj _ (by omega) hv, by omega⟩
  · intro i hi
    obtain ⟨l1, l2⟩ := h.le i hi
    have hin := in_rd hI i hi
    have hv := relW_le k D (rd_T27 l (i : Int)).f0 (rd_T27 l (i : Int)).f1
    have b0 := bd _ _ hin.1 hin.2 l1
    exact ⟨ne_of_le _ _ hin.1 hin.2 _ (by omega) hv, by omega⟩
  · intro i h0 h1
    have := hpos i h0 h1
    have := relW_le k D i i
    have := h.diag i h0 h1
    omega
end
/-- The table as it is laid, some binds having been looked at. -/
structure FW0 (l : List S27) (n t : Nat) (D : Int → Int → Int) : Prop where
  le : ∀ i : Nat, i < t → D (rd_T27 l (i : Int)).f0 (rd_T27 l (i : Int)).f1 ≠ noW ∧ D (rd_T27 l (i : Int)).f0 (rd_T27 l (i : Int)).f1 ≤ (rd_T27 l (i : Int)).f2
  diag : ∀ i : Int, 0 ≤ i → i < n → D i i = 0
  real : ∀ i j : Int, (0 ≤ i ∧ i < n) → (0 ≤ j ∧ j < n) → D i j ≠ noW → ∃ ps, FM l 0 i j ps ∧ wsum l ps = D i j
def putW (D : Int → Int → Int) (a b v : Int) (i j : Int) : Int := if i = a ∧ j = b then v else D i j
theorem FW0.step {l : List S27} {n t : Nat} {D : Int → Int → Int} (h : FW0 l n t D) (hB : ∀ i : Nat, i < l.length → -24000000000000 ≤ (rd_T27 l i).f2 ∧ (rd_T27 l i).f2 ≤ 24000000000000) (hne : ∀ i : Nat, i < l.length → (rd_T27 l (i : Int)).f0 ≠ (rd_T27 l (i : Int)).f1) (ht : t < l.length) :
    ((rd_T27 l (t : Int)).f2 < D (rd_T27 l (t : Int)).f0 (rd_T27 l (t : Int)).f1 → FW0 l n (t + 1) (putW D (rd_T27 l (t : Int)).f0 (rd_T27 l (t : Int)).f1 (rd_T27 l (t : Int)).f2)) ∧ (¬ (rd_T27 l (t : Int)).f2 < D (rd_T27 l (t : Int)).f0 (rd_T27 l (t : Int)).f1 → FW0 l n (t + 1) D) := by
  have hb := hB t ht
  have nW : noW = 4000000000000000 := rfl
  constructor
  · intro hlt
    refine ⟨fun i hi => ?_, fun i h0 h1 => ?_, fun i j hi hj hd => ?_⟩
    · unfold putW
      split
      · rename_i e
        by_cases hit : i = t
        · subst hit; omega
        · have := h.le i (by omega)
          rw [e.1, e.2] at this
          omega
      · rename_i e
        refine h.le i ?_
        by_cases hit : i = t
        · subst hit; exact absurd ⟨rfl, rfl⟩ e
        · omega
    · unfold putW
      rw [if_neg (fun e => hne t ht (e.1.symm.trans e.2))]
      exact h.diag i h0 h1
    · unfold putW at hd ⊢
      split
      · rename_i e
        refine ⟨[(t : Int)], ⟨⟨by omega, by omega⟩, e.1.symm, .inl ⟨rfl, e.2.symm⟩⟩, by simp [wsum]⟩
      · rename_i e
        rw [if_neg e] at hd
        exact h.real i j hi hj hd
  · intro hge
    refine ⟨fun i hi => ?_, h.diag, h.real⟩
    by_cases hit : i = t
    · subst hit; omega
    · exact h.le i (by omega)
theorem FW0.start (l : List S27) (n : Nat) (D : Int → Int → Int) (h : ∀ i j : Int, (0 ≤ i ∧ i < n) → (0 ≤ j ∧ j < n) → D i j = if i = j then 0 else noW) : FW0 l n 0 D := by
  refine ⟨fun i hi => by omega, fun i h0 h1 => by rw [h i i ⟨h0, h1⟩ ⟨h0, h1⟩, if_pos rfl], fun i j hi hj hd => ?_⟩
  rw [h i j hi hj] at hd ⊢
  by_cases e : i = j
  · subst e; rw [if_pos rfl]; exact ⟨[], rfl, rfl⟩
  · rw [if_neg e] at hd; exact absurd rfl hd
theorem FW0.done {l : List S27} {n : Nat} {D : Int → Int → Int} (h : FW0 l n l.length D) : FW l n ((0 : Nat) : Int) D :=
  ⟨fun p h0 h1 => by omega, h.le, h.diag, h.real⟩
/-- Only what stands at events counts. -/
theorem FW.congr {l : List S27} {n : Nat} {k : Int} {D D' : Int → Int → Int} (h : FW l n k D) (hI : ∀ b ∈ l, InB n b) (hk : k ≤ n) (he : ∀ i j : Int, (0 ≤ i ∧ i < n) → (0 ≤ j ∧ j < n) → D' i j = D i j) : FW l n k D' := by
  refine ⟨fun p h0 h1 i j hi hj a b => ?_, fun i hi => ?_, fun i h0 h1 => ?_, fun i j hi hj a => ?_⟩
  · rw [he i p hi ⟨h0, by omega⟩] at a ⊢; rw [he p j ⟨h0, by omega⟩ hj] at b ⊢; rw [he i j hi hj]; exact h.tri p h0 h1 i j hi hj a b
  · have hin := in_rd hI i hi; rw [he _ _ hin.1 hin.2]; exact h.le i hi
  · rw [he i i ⟨h0, h1⟩ ⟨h0, h1⟩]; exact h.diag i h0 h1
  · rw [he i j hi hj] at a ⊢; exact h.real i j hi hj a
theorem FW0.congr {l : List S27} {n t : Nat} {D D' : Int → Int → Int} (h : FW0 l n t D) (hI : ∀ b ∈ l, InB n b) (ht : t ≤ l.length) (he : ∀ i j : Nat, D' i j = D i j) : FW0 l n t D' := by
  have he : ∀ i j : Int, 0 ≤ i → 0 ≤ j → D' i j = D i j := fun i j h0 h1 => by
    have := he i.toNat j.toNat
    rwa [Int.toNat_of_nonneg h0, Int.toNat_of_nonneg h1] at this
  refine ⟨fun i hi => ?_, fun i h0 h1 => ?_, fun i j hi hj a => ?_⟩
  · have hin := in_rd hI i (by omega); rw [he _ _ hin.1.1 hin.2.1]; exact h.le i hi
  · rw [he i i h0 h0]; exact h.diag i h0 h1
  · rw [he i j hi.1 hj.1] at a ⊢; exact h.real i j hi hj a
end Go.Proofs.Ytlfopemghafboaa.D
