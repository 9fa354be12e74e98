/- The shortest chains of binds, as plain mathematics: what relaxing, the circle, the least bind and the earliest times find. No condition beyond each theorem's own hypotheses. -/
import Derived.Test.YtlfopemghafboaaDh13
import Derived.Test.YtlfopemghafboaaDh8
import Derived.Test.YtlfopemghafboaaDp0
namespace Go.Proofs.Ytlfopemghafboaa.D
open Go.RowKit Go.Proofs.YtlfopemghafboaaW.PrintWords Go.Proofs.YtlfopemghafboaaW.PrintLast Go.Proofs.YtlfopemghafboaaW.PrintMore
set_option linter.unusedVariables false
set_option linter.unusedSimpArgs false
/-! ### rows -/
theorem rd_set_ (xs : List Int) (v x y : Int) (h0 : 0 ≤ v) (h1 : v < xs.length) (hx : 0 ≤ x) : rd (xs.set v.toNat y) x = if x = v then y else rd xs x := by
  unfold rd
  rw [List.getD_eq_getElem?_getD, List.getD_eq_getElem?_getD, List.getElem?_set]
  by_cases e : x = v
  · subst e
    rw [if_pos rfl, if_pos rfl, if_pos (by omega)]
    rfl
  · rw [if_neg (by omega), if_neg e]
theorem has_set_ (xs : List Bool) (v x : Int) (h0 : 0 ≤ v) (h1 : v < xs.length) (hx : 0 ≤ x) : (xs.set v.toNat true).getD x.toNat false = if x = v then true else xs.getD x.toNat false := by
  rw [List.getD_eq_getElem?_getD, List.getD_eq_getElem?_getD, List.getElem?_set]
  by_cases e : x = v
  · subst e
    rw [if_pos rfl, if_pos rfl, if_pos (by omega)]
    rfl
  · rw [if_neg (by omega), if_neg e]
/-! ### chains backwards -/
/-- The binds that came last, from x back to y. -/
def PW (l : List S27) (last : List Int) : Int → Int → List Int → Prop
  | x, y, [] => x = y
  | x, y, p :: ps => p = rd last x ∧ (0 ≤ p ∧ p < l.length) ∧ PW l last (rd_T27 l p).f0 y ps
def wsum (l : List S27) : List Int → Int
  | [] => 0
  | i :: r => (rd_T27 l i).f2 + wsum l r
def hs (st : RS) (x : Int) : Bool := st.has.getD x.toNat false
/-- A bind is kept by the sums. -/
def Sat (l : List S27) (st : RS) (i : Nat) : Prop := hs st (rd_T27 l i).f1 = true ∧ rd st.sum (rd_T27 l i).f1 ≤ rd st.sum (rd_T27 l i).f0 + (rd_T27 l i).f2
/-- Numbers that keep all binds. -/
def Feas (l : List S27) (p : Int → Int) : Prop := ∀ i : Nat, i < l.length → p (rd_T27 l i).f1 - p (rd_T27 l i).f0 ≤ (rd_T27 l i).f2
structure BInv (l : List S27) (n : Nat) (B e : Int) (r j t : Nat) (st : RS) (tau : Int → Nat) : Prop where
  ls : st.sum.length = n
  lh : st.has.length = n
  ll : st.last.length = n
  bd : ∀ x : Int, 0 ≤ x → x < n → -(t * B) ≤ rd st.sum x ∧ rd st.sum x ≤ t * B
  src : ∀ x : Int, 0 ≤ x → x < n → (e < 0 ∨ x = e) → hs st x = true ∧ rd st.sum x ≤ 0 ∧ (0 ≤ rd st.last x → rd st.sum x < 0)
  ptr : ∀ x : Int, 0 ≤ x → x < n → hs st x = true → (rd st.last x = -1 ∧ (e < 0 ∨ x = e) ∧ rd st.sum x = 0 ∧ tau x = 0) ∨
    ((0 ≤ rd st.last x ∧ rd st.last x < l.length) ∧ (rd_T27 l (rd st.last x)).f1 = x ∧ hs st (rd_T27 l (rd st.last x)).f0 = true ∧
      rd st.sum (rd_T27 l (rd st.last x)).f0 + (rd_T27 l (rd st.last x)).f2 ≤ rd st.sum x ∧ tau x ≤ tau (rd_T27 l (rd st.last x)).f0 + 1 ∧ 1 ≤ tau x)
  nol : ∀ x : Int, 0 ≤ x → x < n → hs st x = false → rd st.last x = -1
  neg : ∀ (x : Int) (ps : List Int), 0 ≤ x → x < n → PW l st.last x x ps → ps ≠ [] → wsum l ps < 0
  sat : ∀ i : Nat, i < l.length → hs st (rd_T27 l i).f0 = true → (i < j → tau (rd_T27 l i).f0 < r → Sat l st i) ∧ (j ≤ i → tau (rd_T27 l i).f0 + 1 < r → Sat l st i)
  tle : ∀ x, tau x ≤ r
  out : (st.out < 0 ∧ ∀ x, tau x < r) ∨ ((0 ≤ st.out ∧ st.out < n) ∧ hs st st.out = true ∧ tau st.out = r)
  low : 0 ≤ e → ∀ p, Feas l p → ∀ x : Int, 0 ≤ x → x < n → hs st x = true → p x - p e ≤ rd st.sum x
/-- After one bind is relaxed: chains of the new row, and what they weigh. -/
theorem PW_new {l : List S27} {n : Nat} (hI : ∀ b ∈ l, InB n b) (last last' : List Int) (S : Int → Int) (v : Int)
    (h1 : ∀ x : Int, 0 ≤ x → x < n → 0 ≤ rd last' x → rd last' x < l.length → S (rd_T27 l (rd last' x)).f0 + (rd_T27 l (rd last' x)).f2 ≤ S x)
    (h2 : ∀ x : Int, 0 ≤ x → x < n → 0 ≤ rd last' x → rd last' x < l.length → (rd_T27 l (rd last' x)).f0 = v → S v + (rd_T27 l (rd last' x)).f2 < S x)
    (h3 : ∀ x : Int, 0 ≤ x → x < n → x ≠ v → rd last' x = rd last x) :
    ∀ (ps : List Int) (x y : Int), 0 ≤ x → x < n → PW l last' x y ps → S y + wsum l ps ≤ S x ∧ (S y + wsum l ps < S x ∨ ((x ≠ v → PW l last x y ps) ∧ (ps ≠ [] → y ≠ v))) := by
  intro ps
  induction ps with
  | nil =>
    intro x y hx0 hx1 h
    simp only [PW] at h
    subst h
    refine ⟨by simp [wsum], .inr ⟨fun _ => rfl, fun h => absurd rfl h⟩⟩
  | cons p ps ih =>
    intro x y hx0 hx1 h
    simp only [PW] at h
    obtain ⟨hp, ⟨hp0, hp1⟩, hr⟩ := h
    subst hp
    obtain ⟨m, hm⟩ : ∃ m : Nat, rd last' x = m := ⟨(rd last' x).toNat, by omega⟩
    have hz := in_rd hI m (by omega)
    rw [← hm] at hz
    obtain ⟨ha, hb⟩ := ih _ y hz.1.1 hz.1.2 hr
    have hc := h1 x hx0 hx1 hp0 hp1
    have e : wsum l (rd last' x :: ps) = (rd_T27 l (rd last' x)).f2 + wsum l ps := rfl
    rw [e]
    refine ⟨by omega, ?_⟩
    by_cases hv : (rd_T27 l (rd last' x)).f0 = v
    · have hd := h2 x hx0 hx1 hp0 hp1 hv
      rw [hv] at ha
      exact .inl (by omega)
    · rcases hb with hb | ⟨hb1, hb2⟩
      · exact .inl (by omega)
      · refine .inr ⟨fun hxv => ?_, fun _ => ?_⟩
        · simp only [PW]
          exact ⟨h3 x hx0 hx1 hxv, ⟨hp0, hp1⟩, hb1 hv⟩
        · cases ps with
          | nil => simp only [PW] at hr; rw [← hr]; exact hv
          | cons q qs => exact hb2 (by simp)
theorem wrap64_id0 (x : Int) (h0 : -9223372036854775808 ≤ x) (h1 : x ≤ 9223372036854775807) : wrap64 x = x := by unfold wrap64; omega
/-- One bind relaxed. -/
theorem BInv.step {l : List S27} {n : Nat} {B e : Int} {r j t : Nat} {st : RS} {tau : Int → Nat} (hI : ∀ b ∈ l, InB n b) (hB : ∀ i : Nat, i < l.length → -B ≤ (rd_T27 l i).f2 ∧ (rd_T27 l i).f2 ≤ B)
    (hj : j < l.length) (hr1 : 1 ≤ r) (hT : ((t + 1 : Nat) : Int) * B ≤ 9000000000000000000) (h : BInv l n B e r j t st tau) : ∃ tau', BInv l n B e r (j + 1) (t + 1) (rstep st j (rd_T27 l j)) tau' := by
  have hb : (0 ≤ (rd_T27 l (j : Int)).f0 ∧ (rd_T27 l (j : Int)).f0 < n) ∧ (0 ≤ (rd_T27 l (j : Int)).f1 ∧ (rd_T27 l (j : Int)).f1 < n) := in_rd hI j hj
  have hw := hB j hj
  have hB0 : 0 ≤ B := by omega
  have ht : ((t + 1 : Nat) : Int) * B = t * B + B := by rw [Int.natCast_add, Int.add_mul]; simp
  rw [ht] at hT
  have htB : 0 ≤ (t : Int) * B := Int.mul_nonneg (by omega) hB0
  have hmono : ∀ x : Int, 0 ≤ x → x < n → -(((t + 1 : Nat) : Int) * B) ≤ rd st.sum x ∧ rd st.sum x ≤ ((t + 1 : Nat) : Int) * B := by
    intro x h0 h1
    have := h.bd x h0 h1
    rw [ht]
    omega
  have keep : ∀ (hn : hs st (rd_T27 l j).f0 = true → Sat l st j), BInv l n B e r (j + 1) (t + 1) st tau := by
    intro hn
    refine { h with bd := hmono, sat := fun i hi hh => ?_ }
    have hs0 := h.sat i hi hh
    refine ⟨fun hij htau => ?_, fun hij htau => hs0.2 (by omega) htau⟩
    by_cases eij : i = j
    · subst eij; exact hn hh
    · exact hs0.1 (by omega) htau
  unfold rstep
  by_cases hu : st.has.getD (rd_T27 l (j : Int)).f0.toNat false = true
  · rw [if_pos hu]
    have hbu := h.bd _ hb.1.1 hb.1.2
    have hwr : wrap64 (rd st.sum (rd_T27 l (j : Int)).f0 + (rd_T27 l (j : Int)).f2) = rd st.sum (rd_T27 l (j : Int)).f0 + (rd_T27 l (j : Int)).f2 := wrap64_id0 _ (by omega) (by omega)
    rw [hwr]
    by_cases hc : st.has.getD (rd_T27 l (j : Int)).f1.toNat false = false ∨ rd st.sum (rd_T27 l (j : Int)).f0 + (rd_T27 l (j : Int)).f2 < rd st.sum (rd_T27 l (j : Int)).f1
    · rw [if_pos hc]
      have hcu : hs st (rd_T27 l (j : Int)).f0 = true := hu
      have hcv : hs st (rd_T27 l (j : Int)).f1 = false ∨ rd st.sum (rd_T27 l (j : Int)).f0 + (rd_T27 l (j : Int)).f2 < rd st.sum (rd_T27 l (j : Int)).f1 := hc
      -- names
      have ej : ∀ m : Int, m = (j : Int) → rd_T27 l m = rd_T27 l (j : Int) := fun m hm => by rw [hm]
      have HS : ∀ x : Int, 0 ≤ x → rd (st.sum.set (rd_T27 l (j : Int)).f1.toNat (rd st.sum (rd_T27 l (j : Int)).f0 + (rd_T27 l (j : Int)).f2)) x = if x = (rd_T27 l (j : Int)).f1 then rd st.sum (rd_T27 l (j : Int)).f0 + (rd_T27 l (j : Int)).f2 else rd st.sum x :=
        fun x hx => rd_set_ _ _ _ _ hb.2.1 (by rw [h.ls]; exact hb.2.2) hx
      have HL : ∀ x : Int, 0 ≤ x → rd (st.last.set (rd_T27 l (j : Int)).f1.toNat (j : Int)) x = if x = (rd_T27 l (j : Int)).f1 then (j : Int) else rd st.last x :=
        fun x hx => rd_set_ _ _ _ _ hb.2.1 (by rw [h.ll]; exact hb.2.2) hx
      have HH : ∀ x : Int, 0 ≤ x → (st.has.set (rd_T27 l (j : Int)).f1.toNat true).getD x.toNat false = if x = (rd_T27 l (j : Int)).f1 then true else hs st x :=
        fun x hx => has_set_ _ _ _ hb.2.1 (by rw [h.lh]; exact hb.2.2) hx
      generalize hst' : (⟨st.sum.set (rd_T27 l (j : Int)).f1.toNat (rd st.sum (rd_T27 l (j : Int)).f0 + (rd_T27 l (j : Int)).f2), st.has.set (rd_T27 l (j : Int)).f1.toNat true, st.last.set (rd_T27 l (j : Int)).f1.toNat (j : Int), (rd_T27 l (j : Int)).f1⟩ : RS) = st'
      have HS' : ∀ x : Int, 0 ≤ x → rd st'.sum x = if x = (rd_T27 l (j : Int)).f1 then rd st.sum (rd_T27 l (j : Int)).f0 + (rd_T27 l (j : Int)).f2 else rd st.sum x := by rw [← hst']; exact HS
      have HL' : ∀ x : Int, 0 ≤ x → rd st'.last x = if x = (rd_T27 l (j : Int)).f1 then (j : Int) else rd st.last x := by rw [← hst']; exact HL
      have HH' : ∀ x : Int, 0 ≤ x → hs st' x = if x = (rd_T27 l (j : Int)).f1 then true else hs st x := by rw [← hst']; exact HH
      have LS : st'.sum.length = n := by rw [← hst']; simp [h.ls]
      have LH : st'.has.length = n := by rw [← hst']; simp [h.lh]
      have LL : st'.last.length = n := by rw [← hst']; simp [h.ll]
      have OUT : st'.out = (rd_T27 l (j : Int)).f1 := by rw [← hst']
      clear HS HL HH hst'
      generalize hv : (rd_T27 l (j : Int)).f1 = v at *
      generalize huu : (rd_T27 l (j : Int)).f0 = u at *
      generalize hww : (rd_T27 l (j : Int)).f2 = w at *
      have hHm : ∀ x : Int, 0 ≤ x → hs st x = true → hs st' x = true := fun x hx hh => by rw [HH' x hx]; split <;> first | rfl | exact hh
      have hSm : ∀ x : Int, 0 ≤ x → hs st x = true → rd st'.sum x ≤ rd st.sum x := by
        intro x hx hh
        rw [HS' x hx]
        split
        · rename_i e; subst e
          rcases hcv with hcv | hcv
          · rw [hcv] at hh; cases hh
          · omega
        · omega
      -- pointers to known sources
      have hin : ∀ p : Int, 0 ≤ p → p < l.length → 0 ≤ (rd_T27 l p).f0 ∧ (rd_T27 l p).f0 < n := by
        intro p h0 h1
        obtain ⟨m, rfl⟩ : ∃ m : Nat, p = m := ⟨p.toNat, by omega⟩
        exact (in_rd hI m (by omega)).1
      have P1 : ∀ x : Int, 0 ≤ x → x < n → 0 ≤ rd st'.last x → rd st'.last x < l.length → rd st'.sum (rd_T27 l (rd st'.last x)).f0 + (rd_T27 l (rd st'.last x)).f2 ≤ rd st'.sum x := by
        intro x h0 h1 hp0 hp1
        rw [HL' x h0] at hp0 hp1 ⊢
        by_cases ex : x = v
        · rw [if_pos ex] at hp0 hp1 ⊢
          rw [huu, hww, HS' x h0, if_pos ex]
          have := hSm u hb.1.1 hcu
          omega
        · rw [if_neg ex] at hp0 hp1 ⊢
          have hx : hs st x = true := by
            cases hq : hs st x with
            | true => rfl
            | false => have := h.nol x h0 h1 hq; omega
          rcases h.ptr x h0 h1 hx with hq | hq
          · omega
          · have := hSm _ (hin _ hp0 hp1).1 hq.2.2.1
            rw [HS' x h0, if_neg ex]
            omega
      have P2 : ∀ x : Int, 0 ≤ x → x < n → 0 ≤ rd st'.last x → rd st'.last x < l.length → (rd_T27 l (rd st'.last x)).f0 = v → rd st'.sum v + (rd_T27 l (rd st'.last x)).f2 < rd st'.sum x := by
        intro x h0 h1 hp0 hp1 hf
        rw [HL' x h0] at hp0 hp1 hf ⊢
        have hsv : rd st'.sum v = rd st.sum u + w := by rw [HS' v hb.2.1, if_pos rfl]
        by_cases ex : x = v
        · rw [if_pos ex] at hp0 hp1 hf ⊢
          rw [huu] at hf
          subst ex
          rw [hww, hsv]
          subst hf
          rcases hcv with hcv | hcv
          · rw [hcv] at hcu; cases hcu
          · omega
        · rw [if_neg ex] at hp0 hp1 hf ⊢
          have hx : hs st x = true := by
            cases hq : hs st x with
            | true => rfl
            | false => have := h.nol x h0 h1 hq; omega
          rcases h.ptr x h0 h1 hx with hq | hq
          · omega
          · have hq1 := hq.2.2.1
            have hq2 := hq.2.2.2.1
            rw [hf] at hq1 hq2
            rw [hsv, HS' x h0, if_neg ex]
            rcases hcv with hcv | hcv
            · rw [hcv] at hq1; cases hq1
            · omega
      refine ⟨fun x => if x = v then r else tau x, ?_⟩
      have TM : ∀ x, tau x ≤ (if x = v then r else tau x) := fun x => by split; exact h.tle x; exact Nat.le_refl _
      have BDv : -(((t + 1 : Nat) : Int) * B) ≤ rd st.sum u + w ∧ rd st.sum u + w ≤ ((t + 1 : Nat) : Int) * B := by rw [ht]; omega
      constructor
      · exact LS
      · exact LH
      · exact LL
      · intro x h0 h1
        rw [HS' x h0]
        split
        · exact BDv
        · exact hmono x h0 h1
      · intro x h0 h1 hx
        have hs0 := h.src x h0 h1 hx
        refine ⟨hHm x h0 hs0.1, ?_, ?_⟩
        · have := hSm x h0 hs0.1; omega
        · intro hp
          rw [HL' x h0] at hp
          rw [HS' x h0]
          by_cases ex : x = v
          · subst ex
            rw [if_pos rfl]
            rcases hcv with hcv | hcv
            · rw [hcv] at hs0; cases hs0.1
            · omega
          · rw [if_neg ex] at hp ⊢
            exact hs0.2.2 hp
      · intro x h0 h1 hx
        by_cases ex : x = v
        · right
          have hl' : rd st'.last x = (j : Int) := by rw [HL' x h0, if_pos ex]
          have hP := P1 x h0 h1 (by omega) (by omega)
          rw [hl'] at hP ⊢
          rw [huu, hww] at hP ⊢
          rw [if_pos ex]
          refine ⟨⟨by omega, by omega⟩, by rw [hv, ex], hHm u hb.1.1 hcu, hP, ?_, hr1⟩
          -- the source was changed in this round or the one before
          have hsj := (h.sat j hj (by rw [huu]; exact hcu)).2 (Nat.le_refl _)
          rw [huu] at hsj
          have hnot : ¬ Sat l st j := by
            unfold Sat
            rw [hv, huu, hww]
            rintro ⟨hy1, hy2⟩
            rcases hcv with hcv | hcv
            · rw [hcv] at hy1; cases hy1
            · omega
          have h3 : ¬ (tau u + 1 < r) := fun hh => hnot (hsj hh)
          have := TM u
          omega
        · have hx' : hs st x = true := by rw [HH' x h0, if_neg ex] at hx; exact hx
          rcases h.ptr x h0 h1 hx' with hq | hq
          · left
            refine ⟨by rw [HL' x h0, if_neg ex]; exact hq.1, hq.2.1, by rw [HS' x h0, if_neg ex]; exact hq.2.2.1, ?_⟩
            rw [if_neg ex]; exact hq.2.2.2
          · right
            have hl' : rd st'.last x = rd st.last x := by rw [HL' x h0, if_neg ex]
            have hP := P1 x h0 h1 (by rw [hl']; exact hq.1.1) (by rw [hl']; exact hq.1.2)
            rw [hl'] at hP ⊢
            rw [if_neg ex]
            have hz := hin _ hq.1.1 hq.1.2
            refine ⟨hq.1, hq.2.1, hHm _ hz.1 hq.2.2.1, hP, ?_, hq.2.2.2.2.2⟩
            have := TM (rd_T27 l (rd st.last x)).f0
            have := hq.2.2.2.2.1
            omega
      · intro x h0 h1 hx
        rw [HH' x h0] at hx
        by_cases ex : x = v
        · rw [if_pos ex] at hx; cases hx
        · rw [if_neg ex] at hx
          rw [HL' x h0, if_neg ex]
          exact h.nol x h0 h1 hx
      · intro x ps h0 h1 hps hne
        obtain ⟨ha, hb'⟩ := PW_new hI st.last st'.last (fun x => rd st'.sum x) v P1 P2 (fun x h0 h1 ex => by rw [HL' x h0, if_neg ex]) ps x x h0 h1 hps
        rcases hb' with hb' | ⟨hb1, hb2⟩
        · omega
        · exact h.neg x ps h0 h1 (hb1 (hb2 hne)) hne
      · intro i hi hh
        have hz := in_rd hI i hi
        have satm : (rd_T27 l (i : Int)).f0 ≠ v → Sat l st i → Sat l st' i := by
          rintro hne ⟨s1, s2⟩
          refine ⟨hHm _ hz.2.1 s1, ?_⟩
          have := hSm _ hz.2.1 s1
          rw [HS' _ hz.1.1, if_neg hne]
          omega
        by_cases ez : (rd_T27 l (i : Int)).f0 = v
        · rw [if_pos ez]
          exact ⟨fun _ hh => absurd hh (by omega), fun _ hh => absurd hh (by omega)⟩
        · rw [if_neg ez]
          rw [HH' _ hz.1.1, if_neg ez] at hh
          have hs0 := h.sat i hi hh
          refine ⟨fun hij htau => ?_, fun hij htau => satm ez (hs0.2 (by omega) htau)⟩
          by_cases eij : i = j
          · subst eij
            refine ⟨by rw [hv, HH' v hb.2.1, if_pos rfl], ?_⟩
            rw [hv, huu, hww, HS' v hb.2.1, if_pos rfl, HS' u hb.1.1, if_neg (by rw [← huu]; exact ez)]
            omega
          · exact satm ez (hs0.1 (by omega) htau)
      · intro x
        split
        · exact Nat.le_refl _
        · exact h.tle x
      · right
        rw [OUT]
        exact ⟨⟨hb.2.1, hb.2.2⟩, by rw [HH' v hb.2.1, if_pos rfl], by rw [if_pos rfl]⟩
      · intro he p hp x h0 h1 hx
        rw [HS' x h0]
        by_cases ex : x = v
        · rw [if_pos ex]
          have h5 := h.low he p hp u hb.1.1 hb.1.2 hcu
          have h6 := hp j hj
          rw [hv, huu, hww] at h6
          rw [ex]
          omega
        · rw [if_neg ex]
          rw [HH' x h0, if_neg ex] at hx
          exact h.low he p hp x h0 h1 hx
    · rw [if_neg hc]
      refine ⟨tau, keep fun _ => ⟨?_, ?_⟩⟩
      · show st.has.getD (rd_T27 l (j : Int)).f1.toNat false = true
        cases hq : st.has.getD (rd_T27 l (j : Int)).f1.toNat false with
        | true => rfl
        | false => exact absurd (.inl hq) hc
      · have : ¬ (rd st.sum (rd_T27 l (j : Int)).f0 + (rd_T27 l (j : Int)).f2 < rd st.sum (rd_T27 l (j : Int)).f1) := fun hh => hc (.inr hh)
        omega
  · rw [if_neg hu]
    exact ⟨tau, keep fun hh => absurd hh hu⟩
theorem BInv.next {l : List S27} {n : Nat} {B e : Int} {r t : Nat} {st : RS} {tau : Int → Nat} (h : BInv l n B e r l.length t st tau) : BInv l n B e (r + 1) 0 t ⟨st.sum, st.has, st.last, -1⟩ tau :=
  { ls := h.ls, lh := h.lh, ll := h.ll, bd := h.bd, src := h.src, ptr := h.ptr, nol := h.nol, neg := h.neg, low := h.low,
    sat := fun i hi hh => ⟨fun hk => absurd hk (by omega), fun _ ht => (h.sat i hi hh).1 hi (by omega)⟩
    tle := fun x => by have := h.tle x; omega
    out := .inl ⟨by show (-1 : Int) < 0; omega, fun x => by have := h.tle x; omega⟩ }
theorem BInv.loop {l : List S27} {n : Nat} {B e : Int} {r t : Nat} {st : RS} {tau : Int → Nat} (hI : ∀ b ∈ l, InB n b) (hB : ∀ i : Nat, i < l.length → -B ≤ (rd_T27 l i).f2 ∧ (rd_T27 l i).f2 ≤ B) (hB0 : 0 ≤ B)
    (hr1 : 1 ≤ r) (hT : ((t + l.length : Nat) : Int) * B ≤ 9000000000000000000) (h : BInv l n B e r 0 t st tau) : ∀ k : Nat, k ≤ l.length → ∃ tau', BInv l n B e r k (t + k) (rloop l st k) tau' := by
  intro k
  induction k with
  | zero => intro _; exact ⟨tau, h⟩
  | succ k ih =>
    intro hk
    obtain ⟨tau', h'⟩ := ih (by omega)
    have e : ((t + k + 1 : Nat) : Int) * B ≤ ((t + l.length : Nat) : Int) * B := Int.mul_le_mul_of_nonneg_right (by omega) hB0
    exact h'.step hI hB (by omega) hr1 (Int.le_trans e hT)
theorem BInv.stable {l : List S27} {n : Nat} {B e : Int} {r t : Nat} {st : RS} {tau : Int → Nat} (h : BInv l n B e r l.length t st tau) (ho : st.out < 0) : ∀ i : Nat, i < l.length → hs st (rd_T27 l i).f0 = true → Sat l st i := by
  intro i hi hh
  rcases h.out with ⟨_, ht⟩ | ⟨ht, _⟩
  · exact (h.sat i hi hh).1 hi (ht _)
  · omega
theorem BInv.rounds {l : List S27} {n : Nat} {B e : Int} (hI : ∀ b ∈ l, InB n b) (hB : ∀ i : Nat, i < l.length → -B ≤ (rd_T27 l i).f2 ∧ (rd_T27 l i).f2 ≤ B) (hB0 : 0 ≤ B) :
    ∀ (k r t : Nat) (st : RS) (c : Int) (tau : Int → Nat), 1 ≤ k → 1 ≤ r → ((t + k * l.length : Nat) : Int) * B ≤ 9000000000000000000 → BInv l n B e r 0 t ⟨st.sum, st.has, st.last, -1⟩ tau →
      ∃ r' t' tau', t' ≤ t + k * l.length ∧ BInv l n B e r' l.length t' (fromLoop l k st c).1 tau' ∧
        (((fromLoop l k st c).2 < 0 ∧ ∀ i : Nat, i < l.length → hs (fromLoop l k st c).1 (rd_T27 l i).f0 = true → Sat l (fromLoop l k st c).1 i) ∨
         ((0 ≤ (fromLoop l k st c).2 ∧ (fromLoop l k st c).2 < n) ∧ hs (fromLoop l k st c).1 (fromLoop l k st c).2 = true ∧ tau' (fromLoop l k st c).2 = r + k - 1)) := by
  intro k
  induction k with
  | zero => intro r t st c tau hk; omega
  | succ k ih =>
    intro r t st c tau _ hr hT h
    have ek : (k + 1) * l.length = k * l.length + l.length := Nat.succ_mul k l.length
    rw [ek] at hT
    have hT1 : ((t + l.length : Nat) : Int) * B ≤ 9000000000000000000 := by
      have : ((t + l.length : Nat) : Int) * B ≤ ((t + (k * l.length + l.length) : Nat) : Int) * B := Int.mul_le_mul_of_nonneg_right (by omega) hB0
      omega
    obtain ⟨tau1, h1⟩ := h.loop hI hB hB0 hr hT1 l.length (Nat.le_refl _)
    rw [fromLoop]
    by_cases ho : (rloop l ⟨st.sum, st.has, st.last, -1⟩ l.length).out < 0
    · rw [if_pos ho]
      exact ⟨r, _, tau1, by omega, h1, .inl ⟨by simp, h1.stable ho⟩⟩
    · rw [if_neg ho]
      cases k with
      | zero =>
        rw [fromLoop]
        refine ⟨r, _, tau1, by omega, h1, .inr ?_⟩
        rcases h1.out with ⟨h2, _⟩ | ⟨h2, h3, h4⟩
        · omega
        · exact ⟨h2, h3, by simpa using h4⟩
      | succ k =>
        obtain ⟨r', t', tau', ht', hb', hc'⟩ := ih (r + 1) (t + l.length) (rloop l ⟨st.sum, st.has, st.last, -1⟩ l.length) (rloop l ⟨st.sum, st.has, st.last, -1⟩ l.length).out tau1 (by omega) (by omega) (by rw [show t + l.length + (k + 1) * l.length = t + ((k + 1) * l.length + l.length) by omega]; exact hT) h1.next
        refine ⟨r', t', tau', by omega, hb', ?_⟩
        rcases hc' with hc' | hc'
        · exact .inl hc'
        · exact .inr ⟨hc'.1, hc'.2.1, by omega⟩
theorem rd_rep (n : Nat) (v x : Int) (h0 : 0 ≤ x) (h1 : x < n) : rd (List.replicate n v) x = v := by
  unfold rd
  rw [List.getD_eq_getElem?_getD, List.getElem?_replicate, if_pos (by omega)]
  rfl
theorem BInv.init (l : List S27) (n : Nat) (B e : Int) (hB0 : 0 ≤ B) (he : e < n) : BInv l n B e 1 0 0 ⟨List.replicate n 0, initHas n e, List.replicate n (-1), -1⟩ (fun _ => 0) := by
  have hh : ∀ x : Int, 0 ≤ x → x < n → (hs ⟨List.replicate n 0, initHas n e, List.replicate n (-1), -1⟩ x = true ↔ (e < 0 ∨ x = e)) := by
    intro x h0 h1
    unfold hs initHas
    by_cases h : e < 0
    · rw [if_pos h]
      simp only [h, true_or, iff_true]
      rw [List.getD_eq_getElem?_getD, List.getElem?_replicate, if_pos (by omega)]
      rfl
    · rw [if_neg h, has_set_ _ e x (by omega) (by simpa using he) h0]
      by_cases ex : x = e
      · rw [if_pos ex]; simp [ex]
      · rw [if_neg ex, List.getD_eq_getElem?_getD, List.getElem?_replicate, if_pos (by omega)]
        simp [ex, h]
  constructor
  · simp
  · unfold initHas; split <;> simp
  · simp
  · intro x h0 h1
    simp only [rd_rep n 0 x h0 h1]
    simp
  · intro x h0 h1 hx
    refine ⟨(hh x h0 h1).2 hx, by simp only [rd_rep n 0 x h0 h1]; omega, ?_⟩
    simp only [rd_rep n (-1) x h0 h1]
    omega
  · intro x h0 h1 hx
    exact .inl ⟨rd_rep n (-1) x h0 h1, (hh x h0 h1).1 hx, rd_rep n 0 x h0 h1, rfl⟩
  · intro x h0 h1 _
    exact rd_rep n (-1) x h0 h1
  · intro x ps h0 h1 hps hne
    cases ps with
    | nil => exact absurd rfl hne
    | cons p ps =>
      simp only [PW] at hps
      rw [rd_rep n (-1) x h0 h1] at hps
      omega
  · intro i hi _
    exact ⟨fun h => absurd h (by omega), fun _ h => absurd h (by omega)⟩
  · intro x; omega
  · exact .inl ⟨by show (-1 : Int) < 0; omega, fun x => by omega⟩
  · intro h0' p hp x h0 h1 hx
    have := (hh x h0 h1).1 hx
    rw [rd_rep n 0 x h0 h1]
    have : x = e := by omega
    rw [this]; omega
theorem from_inv {l : List S27} {n : Nat} {B e : Int} (hI : ∀ b ∈ l, InB n b) (hB : ∀ i : Nat, i < l.length → -B ≤ (rd_T27 l i).f2 ∧ (rd_T27 l i).f2 ≤ B) (hB0 : 0 ≤ B) (hn : 1 ≤ n) (he : e < n)
    (hT : ((n * l.length : Nat) : Int) * B ≤ 9000000000000000000) :
      ∃ r t tau, t ≤ n * l.length ∧ BInv l n B e r l.length t (fromF l n e).1 tau ∧
        (((fromF l n e).2 < 0 ∧ ∀ i : Nat, i < l.length → hs (fromF l n e).1 (rd_T27 l i).f0 = true → Sat l (fromF l n e).1 i) ∨
         ((0 ≤ (fromF l n e).2 ∧ (fromF l n e).2 < n) ∧ hs (fromF l n e).1 (fromF l n e).2 = true ∧ tau (fromF l n e).2 = n)) := by
  obtain ⟨r, t, tau, h1, h2, h3⟩ := BInv.rounds (e := e) hI hB hB0 n 1 0 ⟨List.replicate n 0, initHas n e, List.replicate n (-1), -1⟩ 0 (fun _ => 0) hn (by omega) (by rw [Nat.zero_add]; exact hT) (BInv.init l n B e hB0 he)
  refine ⟨r, t, tau, by omega, h2, ?_⟩
  rcases h3 with h3 | h3
  · exact .inl h3
  · exact .inr ⟨h3.1, h3.2.1, by have := h3.2.2; unfold fromF; omega⟩
/-! ### following the binds back -/
def nx (l : List S27) (last : List Int) (x : Int) : Int := (rd_T27 l (rd last x)).f0
def itx (l : List S27) (last : List Int) : Nat → Int → Int
  | 0, x => x
  | k + 1, x => itx l last k (nx l last x)
def pth (l : List S27) (last : List Int) : Nat → Int → List Int
  | 0, _ => []
  | k + 1, x => rd last x :: pth l last k (nx l last x)
theorem itx_succ (l : List S27) (last : List Int) (k : Nat) (x : Int) : itx l last (k + 1) x = nx l last (itx l last k x) := by
  induction k generalizing x with
  | zero => rfl
  | succ k ih => rw [itx, ih]; rfl
theorem itx_add (l : List S27) (last : List Int) (k m : Nat) (x : Int) : itx l last (k + m) x = itx l last k (itx l last m x) := by
  induction m generalizing x with
  | zero => rfl
  | succ m ih => rw [← Nat.add_assoc, itx, ih]; rfl
theorem pth_len (l : List S27) (last : List Int) (k : Nat) (x : Int) : (pth l last k x).length = k := by
  induction k generalizing x with
  | zero => rfl
  | succ k ih => simp [pth, ih]
theorem pth_PW {l : List S27} {last : List Int} {n : Nat} (k : Nat) (x : Int) (h : ∀ m : Nat, m < k → okPred l last n (itx l last m x) = true) : PW l last x (itx l last k x) (pth l last k x) := by
  induction k generalizing x with
  | zero => exact rfl
  | succ k ih =>
    have h0 := okPred_iff (h 0 (by omega))
    exact ⟨rfl, h0.2, ih _ (fun m hm => h (m + 1) (by omega))⟩
theorem steps_it {l : List S27} {last : List Int} {n : Nat} (k : Nat) (x : Int) (h : ∀ m : Nat, m < k → okPred l last n (itx l last m x) = true) : stepsF l last n k x = some (itx l last k x) := by
  induction k generalizing x with
  | zero => rfl
  | succ k ih =>
    have h0 : okPred l last n x = true := h 0 (by omega)
    rw [stepsF, if_pos h0]
    exact ih _ (fun m hm => h (m + 1) (by omega))
theorem cyc_it {l : List S27} {last : List Int} {n : Nat} (a : Int) (k : Nat) : ∀ (d : Nat) (x : Int) (acc : List Int), 1 ≤ d → d ≤ k → itx l last d x = a → (∀ m : Nat, m < d → okPred l last n (itx l last m x) = true) →
    ∃ d', 1 ≤ d' ∧ d' ≤ d ∧ itx l last d' x = a ∧ cycF l last n a k x acc = some (acc ++ pth l last d' x) := by
  induction k with
  | zero => intro d x acc h1 h2; omega
  | succ k ih =>
    intro d x acc h1 h2 h3 h4
    have h0 : okPred l last n x = true := h4 0 (by omega)
    rw [cycF, if_pos h0]
    by_cases e : (rd_T27 l (rd last x)).f0 = a
    · rw [if_pos e]
      exact ⟨1, by omega, h1, e, rfl⟩
    · rw [if_neg e]
      have hd : d ≠ 1 := by
        rintro rfl
        exact e h3
      obtain ⟨d1, rfl⟩ : ∃ d1, d = d1 + 1 := ⟨d - 1, by omega⟩
      obtain ⟨d', g1, g2, g3, g4⟩ := ih d1 (nx l last x) (acc ++ [rd last x]) (by omega) (by omega) h3 (fun m hm => h4 (m + 1) (by omega))
      refine ⟨d' + 1, by omega, by omega, g3, ?_⟩
      have g4' : cycF l last n a k (rd_T27 l (rd last x)).f0 (acc ++ [rd last x]) = some (acc ++ [rd last x] ++ pth l last d' (nx l last x)) := g4
      rw [g4', pth]
      simp
theorem back_it {l : List S27} {last : List Int} {n : Nat} (a : Int) (k : Nat) : ∀ (d : Nat) (x : Int) (acc : List Int), d ≤ k → itx l last d x = a → (∀ m : Nat, m < d → okPred l last n (itx l last m x) = true) →
    ∃ d', d' ≤ d ∧ itx l last d' x = a ∧ backF l last n a k x acc = some (acc ++ pth l last d' x) := by
  induction k with
  | zero =>
    intro d x acc h2 h3 h4
    obtain rfl : d = 0 := by omega
    have h3' : x = a := h3
    exact ⟨0, Nat.le_refl _, h3, by rw [backF, if_pos h3']; simp [pth]⟩
  | succ k ih =>
    intro d x acc h2 h3 h4
    rw [backF]
    by_cases e : x = a
    · rw [if_pos e]
      exact ⟨0, by omega, e, by simp [pth]⟩
    · rw [if_neg e]
      have hd : d ≠ 0 := by
        rintro rfl
        exact e h3
      obtain ⟨d1, rfl⟩ : ∃ d1, d = d1 + 1 := ⟨d - 1, by omega⟩
      have h0 : okPred l last n x = true := h4 0 (by omega)
      rw [if_pos h0]
      obtain ⟨d', g2, g3, g4⟩ := ih d1 (nx l last x) (acc ++ [rd last x]) (by omega) h3 (fun m hm => h4 (m + 1) (by omega))
      refine ⟨d' + 1, by omega, g3, ?_⟩
      have g4' : backF l last n a k (rd_T27 l (rd last x)).f0 (acc ++ [rd last x]) = some (acc ++ [rd last x] ++ pth l last d' (nx l last x)) := g4
      rw [g4', pth]
      simp
theorem pigeon : ∀ (n : Nat) (f : Nat → Int), (∀ i, i ≤ n → 0 ≤ f i ∧ f i < n) → ∃ i j, i < j ∧ j ≤ n ∧ f i = f j := by
  intro n
  induction n with
  | zero => intro f h; have := h 0 (by omega); omega
  | succ n ih =>
    intro f h
    by_cases hx : ∃ i, i ≤ n ∧ f i = f (n + 1)
    · obtain ⟨i, hi, e⟩ := hx
      exact ⟨i, n + 1, by omega, by omega, e⟩
    · have hx' : ∀ i, i ≤ n → f i ≠ f (n + 1) := fun i hi e => hx ⟨i, hi, e⟩
      obtain ⟨i, j, h1, h2, h3⟩ := ih (fun i => if f i = n then f (n + 1) else f i) (by
        intro i hi
        have h1 := h i (by omega)
        have h2 := h (n + 1) (by omega)
        have h3 := hx' i hi
        show 0 ≤ (if f i = n then f (n + 1) else f i) ∧ (if f i = n then f (n + 1) else f i) < n
        split <;> omega)
      refine ⟨i, j, h1, by omega, ?_⟩
      have h4 := hx' i (by omega)
      have h5 := hx' j h2
      have h3 : (if f i = n then f (n + 1) else f i) = (if f j = n then f (n + 1) else f j) := h3
      split at h3 <;> split at h3 <;> omega
/-! ### chains forwards -/
def FC (l : List S27) : Int → Int → List Int → Prop
  | a, b, [] => a = b
  | a, b, i :: r => (0 ≤ i ∧ i < l.length) ∧ (rd_T27 l i).f0 = a ∧ FC l (rd_T27 l i).f1 b r
theorem FC_append {l : List S27} (ps qs : List Int) (a b c : Int) (h1 : FC l a b ps) (h2 : FC l b c qs) : FC l a c (ps ++ qs) := by
  induction ps generalizing a with
  | nil => simp only [FC] at h1; subst h1; exact h2
  | cons i r ih => exact ⟨h1.1, h1.2.1, ih _ h1.2.2⟩
theorem wsum_append (l : List S27) (ps qs : List Int) : wsum l (ps ++ qs) = wsum l ps + wsum l qs := by
  induction ps with
  | nil => simp [wsum]
  | cons i r ih => simp only [List.cons_append, wsum, ih]; omega
theorem wsum_reverse (l : List S27) (ps : List Int) : wsum l ps.reverse = wsum l ps := by
  induction ps with
  | nil => rfl
  | cons i r ih => simp only [List.reverse_cons, wsum_append, wsum, ih]; omega
theorem FC_feas {l : List S27} {p : Int → Int} (hp : Feas l p) (ps : List Int) (a b : Int) (h : FC l a b ps) : p b - p a ≤ wsum l ps := by
  induction ps generalizing a with
  | nil => simp only [FC] at h; subst h; simp [wsum]
  | cons i r ih =>
    have h1 := ih _ h.2.2
    obtain ⟨m, rfl⟩ : ∃ m : Nat, i = m := ⟨i.toNat, by have := h.1; omega⟩
    have h2 := hp m (by have := h.1; omega)
    rw [h.2.1] at h2
    simp only [wsum]
    omega
theorem FC_reach {l : List S27} {st : RS} (hs0 : ∀ i : Nat, i < l.length → hs st (rd_T27 l i).f0 = true → Sat l st i) (ps : List Int) (a b : Int) (h : FC l a b ps) (ha : hs st a = true) : hs st b = true ∧ rd st.sum b ≤ rd st.sum a + wsum l ps := by
  induction ps generalizing a with
  | nil => simp only [FC] at h; subst h; exact ⟨ha, by simp [wsum]⟩
  | cons i r ih =>
    obtain ⟨m, rfl⟩ : ∃ m : Nat, i = m := ⟨i.toNat, by have := h.1; omega⟩
    have h2 := hs0 m (by have := h.1; omega) (by rw [h.2.1]; exact ha)
    obtain ⟨h3, h4⟩ := h2
    have h5 := ih _ h.2.2 h3
    rw [h.2.1] at h4
    simp only [wsum]
    exact ⟨h5.1, by omega⟩
/-- Chains backwards within the events. -/
theorem PW_FC' {l : List S27} {n : Nat} {B e : Int} {r j t : Nat} {st : RS} {tau : Int → Nat} (hI : ∀ b ∈ l, InB n b) (h : BInv l n B e r j t st tau) (ps : List Int) (x y : Int) (h0 : 0 ≤ x) (h1 : x < n) (hp : PW l st.last x y ps) : FC l y x ps.reverse := by
  induction ps generalizing x with
  | nil => simp only [PW] at hp; exact hp.symm
  | cons p ps ih =>
    obtain ⟨e, hr, h'⟩ := hp
    rw [List.reverse_cons]
    have hz : 0 ≤ (rd_T27 l p).f0 ∧ (rd_T27 l p).f0 < n := by
      obtain ⟨m, rfl⟩ : ∃ m : Nat, p = m := ⟨p.toNat, by omega⟩
      exact (in_rd hI m (by omega)).1
    refine FC_append _ _ _ _ _ (ih _ hz.1 hz.2 h') ⟨hr, rfl, ?_⟩
    subst e
    have hx : hs st x = true := by
      cases hq : hs st x with
      | true => rfl
      | false => have := h.nol x h0 h1 hq; omega
    rcases h.ptr x h0 h1 hx with hq | hq
    · omega
    · exact hq.2.1
theorem PW_sum {l : List S27} {n : Nat} {B e : Int} {r j t : Nat} {st : RS} {tau : Int → Nat} (hI : ∀ b ∈ l, InB n b) (h : BInv l n B e r j t st tau) (ps : List Int) (x y : Int) (h0 : 0 ≤ x) (h1 : x < n) (hp : PW l st.last x y ps) : rd st.sum y + wsum l ps ≤ rd st.sum x := by
  induction ps generalizing x with
  | nil => simp only [PW] at hp; subst hp; simp [wsum]
  | cons p ps ih =>
    obtain ⟨e, hr, h'⟩ := hp
    have hz : 0 ≤ (rd_T27 l p).f0 ∧ (rd_T27 l p).f0 < n := by
      obtain ⟨m, rfl⟩ : ∃ m : Nat, p = m := ⟨p.toNat, by omega⟩
      exact (in_rd hI m (by omega)).1
    have h3 := ih _ hz.1 hz.2 h'
    subst e
    have hx : hs st x = true := by
      cases hq : hs st x with
      | true => rfl
      | false => have := h.nol x h0 h1 hq; omega
    rcases h.ptr x h0 h1 hx with hq | hq
    · omega
    · have := hq.2.2.2.1
      simp only [wsum]
      omega
theorem ptr_ok {l : List S27} {n : Nat} {B e : Int} {r j t : Nat} {st : RS} {tau : Int → Nat} (h : BInv l n B e r j t st tau) (x : Int) (h0 : 0 ≤ x) (h1 : x < n) (hx : hs st x = true) (ht : 1 ≤ tau x ∨ (0 ≤ e ∧ x ≠ e)) : okPred l st.last n x = true := by
  rcases h.ptr x h0 h1 hx with hq | hq
  · omega
  · unfold okPred
    simp only [Bool.and_eq_true, decide_eq_true_eq]
    have := hq.1
    omega
theorem nx_in {l : List S27} {n : Nat} (hI : ∀ b ∈ l, InB n b) {last : List Int} {x : Int} (h : okPred l last n x = true) : 0 ≤ nx l last x ∧ nx l last x < n := by
  have hp := (okPred_iff h).2
  obtain ⟨m, hm⟩ : ∃ m : Nat, rd last x = m := ⟨(rd last x).toNat, by omega⟩
  have := (in_rd hI m (by omega)).1
  rw [← hm] at this
  exact this
theorem nx_has {l : List S27} {n : Nat} {B e : Int} {r j t : Nat} {st : RS} {tau : Int → Nat} (h : BInv l n B e r j t st tau) (x : Int) (h0 : 0 ≤ x) (h1 : x < n) (hx : hs st x = true) (hk : okPred l st.last n x = true) : hs st (nx l st.last x) = true ∧ tau x ≤ tau (nx l st.last x) + 1 := by
  have hp := (okPred_iff hk).2
  rcases h.ptr x h0 h1 hx with hq | hq
  · omega
  · exact ⟨hq.2.2.1, hq.2.2.2.2.1⟩
/-- A long row of binds that came last has a circle in it. -/
theorem circle_found {l : List S27} {n : Nat} {B e : Int} {r t : Nat} {st : RS} {tau : Int → Nat} (hI : ∀ b ∈ l, InB n b) (h : BInv l n B e r l.length t st tau) (c : Int) (h0 : 0 ≤ c) (h1 : c < n) (hc : hs st c = true) (ht : tau c = n) :
    ∃ (a : Int) (ps : List Int), (0 ≤ a ∧ a < n) ∧ stepsF l st.last n n c = some a ∧ cycF l st.last n a (n + 1) a [] = some ps ∧ PW l st.last a a ps ∧ 1 ≤ ps.length ∧ ps.length ≤ n := by
  have A : ∀ m : Nat, m ≤ n → (0 ≤ itx l st.last m c ∧ itx l st.last m c < n) ∧ hs st (itx l st.last m c) = true ∧ n ≤ tau (itx l st.last m c) + m := by
    intro m
    induction m with
    | zero => intro _; exact ⟨⟨h0, h1⟩, hc, by show n ≤ tau c + 0; omega⟩
    | succ m ih =>
      intro hm
      obtain ⟨g1, g2, g3⟩ := ih (by omega)
      have hok := ptr_ok h _ g1.1 g1.2 g2 (.inl (by omega))
      rw [itx_succ]
      have g4 := nx_has h _ g1.1 g1.2 g2 hok
      exact ⟨nx_in hI hok, g4.1, by omega⟩
  have K : ∀ m : Nat, m < n → okPred l st.last n (itx l st.last m c) = true := by
    intro m hm
    obtain ⟨g1, g2, g3⟩ := A m (by omega)
    exact ptr_ok h _ g1.1 g1.2 g2 (.inl (by omega))
  obtain ⟨i, j, hij, hjn, e1⟩ := pigeon n (fun m => itx l st.last m c) (fun m hm => (A m hm).1)
  have e1 : itx l st.last i c = itx l st.last j c := e1
  have PER : ∀ m : Nat, j ≤ m → itx l st.last m c = itx l st.last (m - (j - i)) c := by
    intro m hm
    have q1 : m = (m - j) + j := by omega
    have q2 : m - (j - i) = (m - j) + i := by omega
    rw [q2, itx_add, e1, ← itx_add, ← q1]
  have K2 : ∀ M m : Nat, m < M → okPred l st.last n (itx l st.last m c) = true := by
    intro M
    induction M with
    | zero => intro m hm; omega
    | succ M ih =>
      intro m hm
      by_cases hmn : m < n
      · exact K m hmn
      · rw [PER m (by omega)]
        exact ih _ (by omega)
  have hN := PER (n + (j - i)) (by omega)
  rw [show n + (j - i) - (j - i) = n by omega, Nat.add_comm, itx_add] at hN
  have K3 : ∀ m : Nat, okPred l st.last n (itx l st.last m (itx l st.last n c)) = true := by
    intro m
    rw [← itx_add]
    exact K2 (m + n + 1) (m + n) (by omega)
  obtain ⟨d', g1, g2, g3, g4⟩ := cyc_it (n := n) (itx l st.last n c) (n + 1) (j - i) (itx l st.last n c) [] (by omega) (by omega) hN (fun m _ => K3 m)
  refine ⟨itx l st.last n c, pth l st.last d' (itx l st.last n c), (A n (Nat.le_refl _)).1, steps_it n c K, by simpa using g4, ?_, by rw [pth_len]; omega, by rw [pth_len]; omega⟩
  have := pth_PW (n := n) d' (itx l st.last n c) (fun m _ => K3 m)
  rw [g3] at this
  exact this
/-- Where no circle stands, the binds that came last lead back to the source. -/
theorem source_found {l : List S27} {n : Nat} {B e : Int} {r t : Nat} {st : RS} {tau : Int → Nat} (hI : ∀ b ∈ l, InB n b) (h : BInv l n B e r l.length t st tau) (he : 0 ≤ e) (hnc : ∀ (x : Int) (ps : List Int), 0 ≤ x → x < n → PW l st.last x x ps → ps = [])
    (b : Int) (h0 : 0 ≤ b) (h1 : b < n) (hb : hs st b = true) :
    ∃ d, d < n ∧ itx l st.last d b = e ∧ ∀ m : Nat, m < d → okPred l st.last n (itx l st.last m b) = true := by
  have A : ∀ N : Nat, (∃ d, d < N ∧ itx l st.last d b = e ∧ ∀ m : Nat, m < d → okPred l st.last n (itx l st.last m b) = true) ∨
      ((∀ m : Nat, m < N → okPred l st.last n (itx l st.last m b) = true) ∧ ((0 ≤ itx l st.last N b ∧ itx l st.last N b < n) ∧ hs st (itx l st.last N b) = true)) := by
    intro N
    induction N with
    | zero => exact .inr ⟨fun m hm => by omega, ⟨h0, h1⟩, hb⟩
    | succ N ih =>
      rcases ih with ⟨d, g1, g2, g3⟩ | ⟨g1, g2, g3⟩
      · exact .inl ⟨d, by omega, g2, g3⟩
      · by_cases ee : itx l st.last N b = e
        · exact .inl ⟨N, by omega, ee, g1⟩
        · right
          have hok := ptr_ok h _ g2.1 g2.2 g3 (.inr ⟨he, ee⟩)
          have g4 := nx_has h _ g2.1 g2.2 g3 hok
          rw [itx_succ]
          refine ⟨fun m hm => ?_, nx_in hI hok, g4.1⟩
          by_cases em : m = N
          · subst em; exact hok
          · exact g1 m (by omega)
  rcases A n with hd | ⟨g1, g2, g3⟩
  · exact hd
  · exfalso
    have R : ∀ m : Nat, m ≤ n → 0 ≤ itx l st.last m b ∧ itx l st.last m b < n := by
      intro m hm
      by_cases em : m = n
      · subst em; exact g2
      · exact (okPred_iff (g1 m (by omega))).1
    obtain ⟨i, j, hij, hjn, e1⟩ := pigeon n (fun m => itx l st.last m b) R
    have e1 : itx l st.last i b = itx l st.last j b := e1
    have hp := pth_PW (l := l) (last := st.last) (n := n) (j - i) (itx l st.last i b) (fun m hm => by rw [← itx_add]; exact g1 _ (by omega))
    rw [← itx_add, show j - i + i = j by omega, ← e1] at hp
    have := hnc _ _ (R i (by omega)).1 (R i (by omega)).2 hp
    have hl := pth_len l st.last (j - i) (itx l st.last i b)
    rw [this] at hl
    simp at hl
    omega
/-- What is asked of binds. -/
structure BindsOK (l : List S27) (n : Nat) (B : Int) : Prop where
  inb : ∀ b ∈ l, InB n b
  bd : ∀ i : Nat, i < l.length → -B ≤ (rd_T27 l i).f2 ∧ (rd_T27 l i).f2 ≤ B
  nn : 0 ≤ B
  pos : 1 ≤ n
  big : ((n * l.length : Nat) : Int) * B ≤ 9000000000000000000
theorem FC_no {l : List S27} (a : Int) (ps : List Int) (h : FC l a a ps) (hw : wsum l ps < 0) (p : Int → Int) (hp : Feas l p) : False := by
  have := FC_feas hp ps a a h
  omega
/-- A circle with a negative sum, or numbers that keep all binds. -/
theorem circle_spec {l : List S27} {n : Nat} {B : Int} (hO : BindsOK l n B) :
    (circleF l n = some ([], false) ∧ ∃ p, Feas l p) ∨ (∃ (a : Int) (ps : List Int), circleF l n = some (ps, true) ∧ (0 ≤ a ∧ a < n) ∧ FC l a a ps ∧ 1 ≤ ps.length ∧ ps.length ≤ n ∧ wsum l ps < 0) := by
  obtain ⟨r, t, tau, ht, hb, hc⟩ := from_inv (e := -1) hO.inb hO.bd hO.nn hO.pos (by omega) hO.big
  unfold circleF
  rcases hc with ⟨hc, hs0⟩ | ⟨hc, hs1, hs2⟩
  · left
    rw [if_pos hc]
    refine ⟨rfl, fun x => rd (fromF l n (-1)).1.sum x, fun i hi => ?_⟩
    have hz := in_rd hO.inb i hi
    have := (hs0 i hi (hb.src _ hz.1.1 hz.1.2 (.inl (by omega))).1).2
    show rd _ _ - rd _ _ ≤ _
    omega
  · right
    rw [if_neg (by omega)]
    obtain ⟨a, ps, g1, g2, g3, g4, g5, g6⟩ := circle_found hO.inb hb _ hc.1 hc.2 hs1 hs2
    refine ⟨a, ps.reverse, ?_, g1, PW_FC' hO.inb hb ps a a g1.1 g1.2 g4, by simpa using g5, by simpa using g6, ?_⟩
    · rw [g2]; simp only; rw [g3]
    · rw [wsum_reverse]
      exact hb.neg a ps g1.1 g1.2 g4 (by intro h; rw [h] at g5; simp at g5)
/-- From one event, where there is no circle. -/
theorem from_spec {l : List S27} {n : Nat} {B e : Int} (hO : BindsOK l n B) (p : Int → Int) (hp : Feas l p) (he0 : 0 ≤ e) (he1 : e < n) :
    ∃ r t tau, BInv l n B e r l.length t (fromF l n e).1 tau ∧ t ≤ n * l.length ∧ (∀ i : Nat, i < l.length → hs (fromF l n e).1 (rd_T27 l i).f0 = true → Sat l (fromF l n e).1 i) ∧
      (∀ (x : Int) (ps : List Int), 0 ≤ x → x < n → PW l (fromF l n e).1.last x x ps → ps = []) ∧ rd (fromF l n e).1.sum e = 0 ∧ hs (fromF l n e).1 e = true := by
  obtain ⟨r, t, tau, ht, hb, hc⟩ := from_inv (e := e) hO.inb hO.bd hO.nn hO.pos he1 hO.big
  have hno : ∀ (x : Int) (ps : List Int), 0 ≤ x → x < n → PW l (fromF l n e).1.last x x ps → ps = [] := by
    intro x ps h0 h1 hps
    cases ps with
    | nil => rfl
    | cons q qs =>
      exfalso
      have h2 := hb.neg x _ h0 h1 hps (by simp)
      refine FC_no x _ (PW_FC' hO.inb hb _ x x h0 h1 hps) (by rw [wsum_reverse]; exact h2) p hp
  have hsrc := hb.src e he0 he1 (.inr rfl)
  have hlow := hb.low he0 p hp e he0 he1 hsrc.1
  refine ⟨r, t, tau, hb, ht, ?_, hno, by omega, hsrc.1⟩
  rcases hc with ⟨hc, hs0⟩ | ⟨hc, hs1, hs2⟩
  · exact hs0
  · exfalso
    obtain ⟨a, ps, g1, g2, g3, g4, g5, g6⟩ := circle_found hO.inb hb _ hc.1 hc.2 hs1 hs2
    have := hno a ps g1.1 g1.2 g4
    rw [this] at g5
    simp at g5
/-- Chains back to the source weigh what the sum says. -/
theorem from_chain {l : List S27} {n : Nat} {B e : Int} (hO : BindsOK l n B) (p : Int → Int) (hp : Feas l p) (he0 : 0 ≤ e) (he1 : e < n) (b : Int) (hb0 : 0 ≤ b) (hb1 : b < n) (hb : hs (fromF l n e).1 b = true) :
    ∃ ps, backF l (fromF l n e).1.last n e n b [] = some ps ∧ FC l e b ps.reverse ∧ ps.length < n ∧ wsum l ps = rd (fromF l n e).1.sum b := by
  obtain ⟨r, t, tau, h1, _, h2, h3, h4, h5⟩ := from_spec hO p hp he0 he1
  obtain ⟨d, g1, g2, g3⟩ := source_found hO.inb h1 he0 h3 b hb0 hb1 hb
  obtain ⟨d', k1, k2, k3⟩ := back_it (n := n) e n d b [] (by omega) g2 g3
  have hP := pth_PW (n := n) d' b (fun m hm => g3 m (by omega))
  rw [k2] at hP
  have hF := PW_FC' hO.inb h1 _ b e hb0 hb1 hP
  have hS := PW_sum hO.inb h1 _ b e hb0 hb1 hP
  have hR := (FC_reach h2 _ e b hF h5).2
  rw [wsum_reverse] at hR
  refine ⟨pth l (fromF l n e).1.last d' b, by simpa using k3, hF, by rw [pth_len]; omega, by omega⟩
/-! ### the earliest times -/
theorem turned_rd (l : List S27) (i : Int) (h0 : 0 ≤ i) (h1 : i < l.length) : rd_T27 (l.map turn) i = turn (rd_T27 l i) := by
  obtain ⟨m, rfl⟩ : ∃ m : Nat, i = m := ⟨i.toNat, by omega⟩
  exact turn_rd l m (by omega)
theorem turned_FC (l : List S27) (ps : List Int) (a b : Int) (h : FC (l.map turn) a b ps) : FC l b a ps.reverse ∧ wsum (l.map turn) ps = wsum l ps := by
  induction ps generalizing a with
  | nil => simp only [FC] at h; exact ⟨h.symm, rfl⟩
  | cons i r ih =>
    obtain ⟨hr, h0, h1⟩ := h
    have hl : (l.map turn).length = l.length := by simp
    rw [hl] at hr
    rw [turned_rd l i hr.1 hr.2] at h0 h1
    have g := ih _ h1
    rw [List.reverse_cons]
    refine ⟨FC_append _ _ _ _ _ g.1 ⟨hr, rfl, h0⟩, ?_⟩
    simp only [wsum, turned_rd l i hr.1 hr.2, g.2]
    rfl
theorem turned_ok {l : List S27} {n : Nat} {B : Int} (h : BindsOK l n B) : BindsOK (l.map turn) n B := by
  refine ⟨fun b hb => ?_, fun i hi => ?_, h.nn, h.pos, by simpa using h.big⟩
  · obtain ⟨c, hc, rfl⟩ := List.mem_map.1 hb
    have := h.inb c hc
    exact ⟨this.2, this.1⟩
  · rw [turned_rd l i (by omega) (by simpa using hi)]
    exact h.bd i (by simpa using hi)
theorem turned_feas {l : List S27} {p : Int → Int} (h : Feas l p) : Feas (l.map turn) (fun x => -(p x)) := by
  intro i hi
  have hi' : i < l.length := by simpa using hi
  rw [turned_rd l i (by omega) (by omega)]
  have := h i hi'
  show -(p (rd_T27 l i).f0) - -(p (rd_T27 l i).f1) ≤ (rd_T27 l i).f2
  omega
theorem rd_map_neg (xs : List Int) (x : Int) (h0 : 0 ≤ x) (h1 : x < xs.length) : rd (xs.map (fun x => wrap64 (-x))) x = wrap64 (-(rd xs x)) := by
  have hi : x.toNat < xs.length := by omega
  simp [rd, List.getD_eq_getElem?_getD, List.getElem?_eq_getElem hi]
/-- The earliest times, or no times at all. -/
theorem earliest_spec {l : List S27} {n : Nat} {B : Int} (hO : BindsOK l n B) (hz : ∀ x : Int, 0 < x → x < n → ∃ i : Nat, i < l.length ∧ rd_T27 l i = ⟨x, 0, 0⟩) :
    (earliestF l n = some ([], false) ∧ (∀ p, ¬ Feas l p) ∧ ∃ ps, circleF l n = some (ps, true)) ∨
    (∃ ts, earliestF l n = some (ts, true) ∧ ts.length = n ∧ Feas l (rd ts) ∧ rd ts 0 = 0 ∧ (∀ x : Int, 0 ≤ x → x < n → 0 ≤ rd ts x) ∧ (∀ x : Int, 0 ≤ x → x < n → ∃ ps, FC l x 0 ps ∧ ps.length < n ∧ wsum l ps = -(rd ts x)) ∧ circleF l n = some ([], false)) := by
  unfold earliestF
  rcases circle_spec hO with ⟨hc, p, hp⟩ | ⟨a, ps, hc, ha, hF, h1, h2, hw⟩
  · right
    rw [hc]
    have hpos := hO.pos
    obtain ⟨r, t, tau, hb, ht, hs0, hno, hs1, hs2⟩ := from_spec (e := 0) (turned_ok hO) _ (turned_feas hp) (by omega) (by omega)
    simp only
    have hlen : (l.map turn).length = l.length := by simp
    have hsmall : ∀ x : Int, 0 ≤ x → x < n → rd ((fromF (l.map turn) n 0).1.sum.map (fun x => wrap64 (-x))) x = -(rd (fromF (l.map turn) n 0).1.sum x) := by
      intro x h0 h1
      rw [rd_map_neg _ x h0 (by rw [hb.ls]; exact h1)]
      have h3 := hb.bd x h0 h1
      have h4 : (t : Int) * B ≤ ((n * l.length : Nat) : Int) * B := Int.mul_le_mul_of_nonneg_right (by rw [hlen] at ht; omega) hO.nn
      have h5 := hO.big
      exact wrap64_id0 _ (by omega) (by omega)
    have hall : ∀ x : Int, 0 ≤ x → x < n → hs (fromF (l.map turn) n 0).1 x = true ∧ rd (fromF (l.map turn) n 0).1.sum x ≤ 0 := by
      intro x h0 h1
      by_cases e : x = 0
      · subst e; exact ⟨hs2, by omega⟩
      · obtain ⟨i, hi, he⟩ := hz x (by omega) h1
        have h3 := hs0 i (by rw [hlen]; exact hi)
        rw [turned_rd l i (by omega) (by omega), he] at h3
        obtain ⟨h4, h5⟩ := h3 hs2
        rw [turned_rd l i (by omega) (by omega), he] at h4 h5
        have h4 : hs (fromF (l.map turn) n 0).1 x = true := h4
        have h5 : rd (fromF (l.map turn) n 0).1.sum x ≤ rd (fromF (l.map turn) n 0).1.sum 0 + 0 := h5
        exact ⟨h4, by omega⟩
    refine ⟨_, rfl, by simp [hb.ls], ?_, ?_, ?_, ?_, trivial⟩
    · intro i hi
      have hi2 := in_rd hO.inb i hi
      have h3 := hs0 i (by rw [hlen]; exact hi)
      rw [turned_rd l i (by omega) (by omega)] at h3
      obtain ⟨h4, h5⟩ := h3 (hall _ hi2.2.1 hi2.2.2).1
      rw [turned_rd l i (by omega) (by omega)] at h5
      have h5 : rd (fromF (l.map turn) n 0).1.sum (rd_T27 l i).f0 ≤ rd (fromF (l.map turn) n 0).1.sum (rd_T27 l i).f1 + (rd_T27 l i).f2 := h5
      rw [hsmall _ hi2.1.1 hi2.1.2, hsmall _ hi2.2.1 hi2.2.2]
      omega
    · rw [hsmall 0 (by omega) (by omega), hs1]; omega
    · intro x h0 h1
      rw [hsmall x h0 h1]
      have := (hall x h0 h1).2
      omega
    · intro x h0 h1
      obtain ⟨ps, g1, g2, g3, g4⟩ := from_chain (turned_ok hO) _ (turned_feas hp) (e := 0) (by omega) (by omega) x h0 h1 (hall x h0 h1).1
      obtain ⟨k1, k2⟩ := turned_FC l _ _ _ g2
      refine ⟨_, k1, by simpa using g3, ?_⟩
      rw [hsmall x h0 h1, wsum_reverse]
      rw [← k2, wsum_reverse, g4]
      omega
  · left
    rw [hc]
    exact ⟨rfl, fun p hp => FC_no a ps hF hw p hp, ps, rfl⟩
/-- A bound of what chains weigh. -/
theorem wsum_bd {l : List S27} {B : Int} (hB : ∀ i : Nat, i < l.length → -B ≤ (rd_T27 l i).f2 ∧ (rd_T27 l i).f2 ≤ B) (ps : List Int) (a b : Int) (h : FC l a b ps) : -((ps.length : Int) * B) ≤ wsum l ps ∧ wsum l ps ≤ (ps.length : Int) * B := by
  induction ps generalizing a with
  | nil => simp [wsum]
  | cons i r ih =>
    obtain ⟨hr, h0, h1⟩ := h
    obtain ⟨m, rfl⟩ : ∃ m : Nat, i = m := ⟨i.toNat, by omega⟩
    have h2 := hB m (by omega)
    have h3 := ih _ h1
    have e : (((m : Int) :: r).length : Int) * B = (r.length : Int) * B + B := by rw [List.length_cons, Int.natCast_add, Int.add_mul]; simp
    rw [e]
    simp only [wsum]
    omega
/-- What chain says of chains. -/
theorem chainGo_FC {l : List S27} {B : Int} (hB : ∀ i : Nat, i < l.length → -B ≤ (rd_T27 l i).f2 ∧ (rd_T27 l i).f2 ≤ B) (hB0 : 0 ≤ B) (ps : List Int) (hps : ∀ i ∈ ps, 0 ≤ i ∧ i < l.length) : ∀ (a s : Int), -9000000000000000000 + (ps.length : Int) * B ≤ s → s ≤ 9000000000000000000 - (ps.length : Int) * B →
    (∀ b, FC l a b ps → chainGo l ps a s = some (b, s + wsum l ps)) ∧ (∀ b t, chainGo l ps a s = some (b, t) → FC l a b ps ∧ t = s + wsum l ps) := by
  induction ps with
  | nil =>
    intro a s h1 h2
    refine ⟨fun b h => ?_, fun b t h => ?_⟩
    · simp only [FC] at h; subst h; simp [chainGo, wsum]
    · simp only [chainGo, Option.some.injEq, Prod.mk.injEq] at h
      obtain ⟨rfl, rfl⟩ := h
      exact ⟨rfl, by simp [wsum]⟩
  | cons i r ih =>
    intro a s h1 h2
    have hi := hps i (by simp)
    obtain ⟨m, rfl⟩ : ∃ m : Nat, i = m := ⟨i.toNat, by omega⟩
    have h3 := hB m (by omega)
    have e : (((m : Int) :: r).length : Int) * B = (r.length : Int) * B + B := by rw [List.length_cons, Int.natCast_add, Int.add_mul]; simp
    rw [e] at h1 h2
    have hrB : 0 ≤ (r.length : Int) * B := Int.mul_nonneg (by omega) hB0
    have hw : wrap64 (s + (rd_T27 l m).f2) = s + (rd_T27 l m).f2 := wrap64_id0 _ (by omega) (by omega)
    have IH := ih (fun i hi => hps i (by simp [hi])) (rd_T27 l m).f1 (s + (rd_T27 l m).f2) (by omega) (by omega)
    refine ⟨fun b h => ?_, fun b t h => ?_⟩
    · rw [chainGo, if_pos h.2.1, hw, IH.1 b h.2.2]
      simp only [wsum]
      rw [Int.add_assoc]
    · rw [chainGo] at h
      by_cases hc : (rd_T27 l m).f0 = a
      · rw [if_pos hc, hw] at h
        have := IH.2 b t h
        refine ⟨⟨hi, hc, this.1⟩, ?_⟩
        simp only [wsum]
        omega
      · rw [if_neg hc] at h; cases h
theorem FC_mem {l : List S27} (ps : List Int) (a b : Int) (h : FC l a b ps) : ∀ i ∈ ps, 0 ≤ i ∧ i < l.length := by
  induction ps generalizing a with
  | nil => intro i hi; cases hi
  | cons j r ih =>
    intro i hi
    rcases List.mem_cons.1 hi with rfl | hi
    · exact h.1
    · exact ih _ h.2.2 i hi
theorem badIdx_iff (n : Nat) (ps : List Int) : badIdx n ps = false ↔ ∀ i ∈ ps, 0 ≤ i ∧ i < n := by
  unfold badIdx
  rw [List.any_eq_false]
  constructor
  · intro h i hi
    have := h i hi
    simp [betweenB] at this
    omega
  · intro h i hi
    have := h i hi
    simp [betweenB]
    omega
theorem FC_head {l : List S27} (ps : List Int) (a b : Int) (h : FC l a b ps) (hl : 1 ≤ ps.length) : (rd_T27 l (rd ps 0)).f0 = a := by
  cases ps with
  | nil => simp at hl
  | cons i r => exact h.2.1
theorem chainF_of {l : List S27} {B : Int} (hB : ∀ i : Nat, i < l.length → -B ≤ (rd_T27 l i).f2 ∧ (rd_T27 l i).f2 ≤ B) (hB0 : 0 ≤ B) (hB1 : B ≤ 30000000000000) (ps : List Int) (a b : Int) (h : FC l a b ps) (h1 : 1 ≤ ps.length) (h2 : ps.length ≤ 100) : chainF l ps = (a, b, wsum l ps, true) := by
  have hb := (badIdx_iff l.length ps).2 (FC_mem ps a b h)
  unfold chainF
  rw [if_neg (by rw [hb]; rintro (h | h | h); omega; omega; cases h), FC_head ps a b h h1]
  have hm : (ps.length : Int) * B ≤ 100 * B := Int.mul_le_mul_of_nonneg_right (by omega) hB0
  rw [((chainGo_FC hB hB0 ps (FC_mem ps a b h) a 0 (by omega) (by omega)).1 b h)]
  simp
theorem chainF_to {l : List S27} {B : Int} (hB : ∀ i : Nat, i < l.length → -B ≤ (rd_T27 l i).f2 ∧ (rd_T27 l i).f2 ≤ B) (hB0 : 0 ≤ B) (hB1 : B ≤ 30000000000000) (ps : List Int) (a b s : Int) (h : chainF l ps = (a, b, s, true)) : FC l a b ps ∧ s = wsum l ps ∧ 1 ≤ ps.length ∧ ps.length ≤ 100 := by
  unfold chainF at h
  by_cases hc : ps.length < 1 ∨ 100 < ps.length ∨ badIdx l.length ps = true
  · rw [if_pos hc] at h; simp at h
  · rw [if_neg hc] at h
    have hb : badIdx l.length ps = false := by
      cases hq : badIdx l.length ps with
      | false => rfl
      | true => exact absurd (.inr (.inr hq)) hc
    have hl : 1 ≤ ps.length ∧ ps.length ≤ 100 := by omega
    have hm : (ps.length : Int) * B ≤ 100 * B := Int.mul_le_mul_of_nonneg_right (by omega) hB0
    have hG := (chainGo_FC hB hB0 ps ((badIdx_iff l.length ps).1 hb) (rd_T27 l (rd ps 0)).f0 0 (by omega) (by omega)).2
    cases hq : chainGo l ps (rd_T27 l (rd ps 0)).f0 0 with
    | none => rw [hq] at h; simp at h
    | some q =>
      obtain ⟨at_, sum⟩ := q
      rw [hq] at h
      simp only [Prod.mk.injEq, and_true] at h
      obtain ⟨rfl, rfl, rfl⟩ := h
      have := hG _ _ hq
      exact ⟨this.1, by omega, hl.1, hl.2⟩
end Go.Proofs.Ytlfopemghafboaa.D
