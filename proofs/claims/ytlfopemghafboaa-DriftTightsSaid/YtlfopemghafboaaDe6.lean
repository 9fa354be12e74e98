/- Plain facts: what the reference reads off its table of least sums is what the program tells. No condition beyond each theorem's own hypotheses. -/
import Derived.Test.YtlfopemghafboaaDe4
import Derived.Test.YtlfopemghafboaaDpd
namespace Go.Proofs.Ytlfopemghafboaa.D
open Go.RowKit Go.Proofs.YtlfopemghafboaaW.PrintWords Go.Proofs.YtlfopemghafboaaW.PrintLast Go.Proofs.YtlfopemghafboaaW.PrintMore
set_option linter.unusedVariables false
set_option linter.unusedSimpArgs false
theorem negc_no {l : List S27} {n : Nat} (h : NegC l n) (p : Int → Int) (hp : Feas l p) : False := by
  obtain ⟨a, ps, _, h1, h2⟩ := h
  exact FC_no a ps h1 h2 p hp
theorem FW.all {l : List S27} {n : Nat} {D : Int → Int → Int} (h : FW l n n D) (hI : ∀ b ∈ l, InB n b) (ps : List Int) (a b : Int) (ha : 0 ≤ a ∧ a < n) (hb : 0 ≤ b ∧ b < n) (hp : FC l a b ps) : D a b ≠ noW ∧ D a b ≤ wsum l ps :=
  h.min hI (Int.le_refl _) ps a b ha hb (FC_FM hI ps a b hp)
theorem FW.real' {l : List S27} {n : Nat} {D : Int → Int → Int} (h : FW l n n D) (a b : Int) (ha : 0 ≤ a ∧ a < n) (hb : 0 ≤ b ∧ b < n) (hd : D a b ≠ noW) : ∃ ps, FC l a b ps ∧ wsum l ps = D a b := by
  obtain ⟨ps, h1, h2⟩ := h.real a b ha hb hd
  exact ⟨ps, FM_FC _ _ _ h1, h2⟩
theorem FW.feas {l : List S27} {n : Nat} {B : Int} {D : Int → Int → Int} (h : FW l n n D) (hO : BindsOK l n B) : ∃ p, Feas l p := by
  rcases circle_spec hO with ⟨_, hp⟩ | ⟨a, ps, _, ha, h1, _, _, h2⟩
  · exact hp
  · have := (h.all hO.inb ps a a ha ha h1).2
    rw [h.diag a ha.1 ha.2] at this
    omega
/-- What Tight tells, read off the table. -/
theorem tight_ways {R : List S42} {E : List S80} (hK : PlanOK R E) (h24 : E.length ≤ 24) (a b : Int) (ha : 0 ≤ a ∧ a < E.length) (hb : 0 ≤ b ∧ b < E.length) (k : Int) (ps : List Int) (is : Bool) (er : Int) (h : dr_Tight.f R E a b = some (k, ps, is, er)) :
    er = 0 ∧ (NegC (bindsL R E) E.length → is = false ∧ k = 0) ∧ ∀ D, FW (bindsL R E) E.length E.length D → (D a b = noW → is = false ∧ k = 0) ∧ (D a b ≠ noW → is = true ∧ k = D a b) := by
  obtain ⟨m, qs, told, h1, h2, h3, h4, h5, h6⟩ := tight_api hK h24 a b ha hb
  have hO := bindsL_ok0 hK h24
  rw [h1] at h
  injection h with h; injection h with e1 h; injection h with e2 h; injection h with e3 e4
  subst e1; subst e2; subst e3; subst e4
  refine ⟨rfl, fun hN => ?_, fun D hD => ⟨fun hn => ?_, fun hn => ?_⟩⟩
  · cases told with
    | false => exact ⟨rfl, (h3 rfl).1⟩
    | true => obtain ⟨_, _, _, p, hp⟩ := h2 rfl; exact (negc_no hN p hp).elim
  · cases told with
    | false => exact ⟨rfl, (h3 rfl).1⟩
    | true => exact absurd hn (hD.all hO.inb _ a b ha hb (h2 rfl).1).1
  · obtain ⟨p, hp⟩ := hD.feas hO
    obtain ⟨rs, r1, r2⟩ := hD.real' a b ha hb hn
    obtain ⟨t1, t2⟩ := h4 p hp rs r1
    subst t1
    obtain ⟨g1, g2, g3, _⟩ := h2 rfl
    have := (hD.all hO.inb _ a b ha hb g1).2
    exact ⟨rfl, by omega⟩
/-- What Earliest tells, read off the table. -/
theorem earliest_ways {R : List S42} {E : List S80} (hK : PlanOK R E) (h24 : E.length ≤ 24) (ts : List Int) (is : Bool) (er : Int) (h : dr_Earliest.f R E = some (ts, is, er)) :
    er = 0 ∧ (NegC (bindsL R E) E.length → is = false ∧ ts = []) ∧ ∀ D, FW (bindsL R E) E.length E.length D → is = true ∧ ts.length = E.length ∧ ∀ e : Nat, e < E.length → rd ts (e : Int) = wrap64 (-(D e 0)) := by
  have hO := bindsL_ok0 hK h24
  have hp := hK.pos
  rcases circle_api hK h24 with ⟨_, h2, h3, _⟩ | ⟨_, ⟨us, h2, h3, h4⟩, ⟨p, hp⟩, _⟩
  · rw [h2] at h
    injection h with h; injection h with e1 h; injection h with e2 e3
    subst e1; subst e2; subst e3
    refine ⟨rfl, fun _ => ⟨rfl, rfl⟩, fun D hD => ?_⟩
    obtain ⟨p, hp⟩ := hD.feas hO
    exact absurd hp (h3 p)
  · rw [h2] at h
    injection h with h; injection h with e1 h; injection h with e2 e3
    subst e1; subst e2; subst e3
    obtain ⟨x1, x2, x3, x4⟩ := (isRun_iff hK h24 us).1 h3
    refine ⟨rfl, fun hN => (negc_no hN p hp).elim, fun D hD => ⟨rfl, x1, fun e he => ?_⟩⟩
    obtain ⟨qs, q1, _, q2⟩ := h4 e (by omega) (by omega)
    obtain ⟨g1, g2⟩ := hD.all hO.inb qs e 0 (by omega) (by omega) q1
    obtain ⟨rs, r1, r2⟩ := hD.real' e 0 (by omega) (by omega) g1
    have hf := FC_feas x4 rs e 0 r1
    have hb := x3 e (by omega) (by omega)
    rw [x2] at hf
    rw [wrap64_id0 _ (by omega) (by omega)]
    omega
/-- Whether a demand is refused, read off the table. -/
theorem breach_ways {R : List S42} {E : List S80} (hK : PlanOK R E) (h24 : E.length ≤ 24) (d : S56) (hd : demOK E.length d = true) :
    (NegC (bindsL R E) E.length → breachB R E d = false) ∧ ∀ D, FW (bindsL R E) E.length E.length D → (breachB R E d = true ↔ (D d.f1 d.f0 > -d.f2 ∨ (d.f3 ≠ -1 ∧ D d.f0 d.f1 > d.f3))) := by
  have hO := bindsL_ok0 hK h24
  have hi := breachB_iff hK h24 d hd
  obtain ⟨h0, h1, h2, h3⟩ := (demOK_iff _ d).1 hd
  have nW : noW = 4000000000000000 := rfl
  constructor
  · intro hN
    cases hb : breachB R E d with
    | false => rfl
    | true =>
      obtain ⟨b, _, p, hp⟩ := hi.1 hb
      exact (negc_no hN p (feas_append.1 hp).1).elim
  · intro D hD
    obtain ⟨p0, hp0⟩ := hD.feas hO
    have one : ∀ a b m : Int, (0 ≤ a ∧ a < E.length) → (0 ≤ b ∧ b < E.length) → m < noW → ((∃ p, Feas (bindsL R E ++ [(⟨b, a, -m⟩ : S27)]) p) ↔ D a b ≥ m) := by
      intro a b m ha hb hm
      constructor
      · rintro ⟨p, hp⟩
        obtain ⟨f1, f2⟩ := feas_append.1 hp
        have f2 := f2 _ (List.mem_cons_self ..)
        simp only at f2
        by_cases hn : D a b = noW
        · omega
        · obtain ⟨rs, r1, r2⟩ := hD.real' a b ha hb hn
          have := FC_feas f1 rs a b r1
          omega
      · intro hge
        obtain ⟨q, q1, q2⟩ := tight_run hO p0 hp0 a b ha hb m (fun qs hq => by have := (hD.all hO.inb qs a b ha hb hq).2; omega)
        refine ⟨q, feas_append.2 ⟨q1, fun c hc => ?_⟩⟩
        simp only [List.mem_cons, List.not_mem_nil, or_false] at hc
        subst hc
        simp only
        omega
    rw [hi, againstL_val hd]
    have o1 := one d.f1 d.f0 (1 - d.f2) h1 h0 (by omega)
    rw [show -(1 - d.f2) = d.f2 - 1 by omega] at o1
    by_cases c : d.f3 = -1
    · rw [if_pos c]
      simp only [List.mem_cons, List.not_mem_nil, or_false, exists_eq_left]
      rw [o1]
      constructor
      · intro h; left; omega
      · rintro (h | ⟨h, _⟩)
        · omega
        · exact absurd c h
    · rw [if_neg c]
      have o2 := one d.f0 d.f1 (d.f3 + 1) h0 h1 (by omega)
      rw [show -(d.f3 + 1) = -d.f3 - 1 by omega] at o2
      constructor
      · rintro ⟨b, hb, hp⟩
        simp only [List.mem_cons, List.not_mem_nil, or_false] at hb
        rcases hb with rfl | rfl
        · have := o1.1 hp; left; omega
        · have := o2.1 hp; right; exact ⟨c, by omega⟩
      · rintro (h | ⟨_, h⟩)
        · exact ⟨_, List.mem_cons_self .., o1.2 (by omega)⟩
        · exact ⟨_, List.mem_cons_of_mem _ (List.mem_cons_self ..), o2.2 (by omega)⟩
end Go.Proofs.Ytlfopemghafboaa.D
