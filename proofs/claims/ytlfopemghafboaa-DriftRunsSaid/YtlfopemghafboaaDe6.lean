/- Plain facts: what the reference reads off its table of least sums is what the program tells. No condition beyond each theorem's own hypotheses. -/
import Derived.Test.YtlfopemghafboaaDe4
import Derived.Test.YtlfopemghafboaaDru
import Derived.Test.YtlfopemghafboaaDx8
namespace Go.Proofs.Ytlfopemghafboaa.D
open Go.RowKit Go.Proofs.YtlfopemghafboaaW.PrintWords Go.Proofs.YtlfopemghafboaaW.PrintLast Go.Proofs.YtlfopemghafboaaW.PrintMore
set_option linter.unusedVariables false
set_option linter.unusedSimpArgs false
theorem negc_no {l : List S27} {n : Nat} (h : NegC l n) (p : Int → Int) (hp : Feas l p) : False := by
  obtain ⟨a, ps, _, h1, h2⟩ := h
  exact FC_no a ps h1 h2 p hp
theorem FW.all {l : List S27} {n : Nat} {D : Int → Int → Int} (h : FW l n n D) (hI : ∀ b ∈ l, InB n b) (ps : List Int) (a b : Int) (ha : 0 ≤ a ∧ a < n) (hb : 0 ≤ b ∧ b < n) (hp : FC l a b ps) : D a b ≠ noW ∧ D a b ≤ wsum l ps :=
  h.min hI (Int.le_refl _) ps a b ha hb (FC_FM hI ps a b hp)
theorem FW.real' {l : List S27} {n : Nat} {D : Int → Int → Int} (h : FW l n n D) (a b : Int) (ha : 0 ≤ a ∧ a < n) (hb : 0 ≤ b ∧ b < n) (hd : D a b ≠ noW) : ∃ ps, FC l a b ps ∧ wsum l ps = D a b := by
  obtain ⟨ps, h1, h2⟩ := h.real a b ha hb hd
  exact ⟨ps, FM_FC _ _ _ h1, h2⟩
theorem FW.feas {l : List S27} {n : Nat} {B : Int} {D : Int → Int → Int} (h : FW l n n D) (hO : BindsOK l n B) : ∃ p, Feas l p := by
  rcases circle_spec hO with ⟨_, hp⟩ | ⟨a, ps, _, ha, h1, _, _, h2⟩
  · exact hp
  · have := (h.all hO.inb ps a a ha ha h1).2
    rw [h.diag a ha.1 ha.2] at this
    omega
/-- What Earliest tells, read off the table. -/
theorem earliest_ways {R : List S42} {E : List S80} (hK : PlanOK R E) (h24 : E.length ≤ 24) (ts : List Int) (is : Bool) (er : Int) (h : dr_Earliest.f R E = some (ts, is, er)) :
    er = 0 ∧ (NegC (bindsL R E) E.length → is = false ∧ ts = []) ∧ ∀ D, FW (bindsL R E) E.length E.length D → is = true ∧ ts.length = E.length ∧ ∀ e : Nat, e < E.length → rd ts (e : Int) = wrap64 (-(D e 0)) := by
  have hO := bindsL_ok0 hK h24
  have hp := hK.pos
  rcases circle_api hK h24 with ⟨_, h2, h3, _⟩ | ⟨_, ⟨us, h2, h3, h4⟩, ⟨p, hp⟩, _⟩
  · rw [h2] at h
    injection h with h; injection h with e1 h; injection h with e2 e3
    subst e1; subst e2; subst e3
    refine ⟨rfl, fun _ => ⟨rfl, rfl⟩, fun D hD => ?_⟩
    obtain ⟨p, hp⟩ := hD.feas hO
    exact absurd hp (h3 p)
  · rw [h2] at h
    injection h with h; injection h with e1 h; injection h with e2 e3
    subst e1; subst e2; subst e3
    obtain ⟨x1, x2, x3, x4⟩ := (isRun_iff hK h24 us).1 h3
    refine ⟨rfl, fun hN => (negc_no hN p hp).elim, fun D hD => ⟨rfl, x1, fun e he => ?_⟩⟩
    obtain ⟨qs, q1, _, q2⟩ := h4 e (by omega) (by omega)
    obtain ⟨g1, g2⟩ := hD.all hO.inb qs e 0 (by omega) (by omega) q1
    obtain ⟨rs, r1, r2⟩ := hD.real' e 0 (by omega) (by omega) g1
    have hf := FC_feas x4 rs e 0 r1
    have hb := x3 e (by omega) (by omega)
    rw [x2] at hf
    rw [wrap64_id0 _ (by omega) (by omega)]
    omega
end Go.Proofs.Ytlfopemghafboaa.D
