/- The contracts of the reference's chain, CheckTight and CheckCircle, by walks through their code. No condition beyond each theorem's own hypotheses. -/
import Derived.Test.YtlfopemghafboaaDe7
namespace Go.Proofs.Ytlfopemghafboaa.D
open Go.RowKit Go.Proofs.YtlfopemghafboaaW.PrintWords Go.Proofs.YtlfopemghafboaaW.PrintLast Go.Proofs.YtlfopemghafboaaW.PrintMore
set_option linter.unusedVariables false
set_option linter.unusedSimpArgs false
theorem FC_uniq {l : List S27} (ps : List Int) (a b b' : Int) (h : FC l a b ps) (h' : FC l a b' ps) : b = b' := by
  induction ps generalizing a with
  | nil => simp only [FC] at h h'; omega
  | cons i r ih => exact ih _ h.2.2 h'.2.2
theorem FC_split {l : List S27} (ps qs : List Int) (a b : Int) (h : FC l a b (ps ++ qs)) : ∃ c, FC l a c ps ∧ FC l c b qs := by
  induction ps generalizing a with
  | nil => exact ⟨a, rfl, h⟩
  | cons i r ih =>
    obtain ⟨c, h1, h2⟩ := ih _ h.2.2
    exact ⟨c, ⟨h.1, h.2.1, h1⟩, h2⟩
/-- A chain, bind by bind. -/
theorem FC_step {l : List S27} {a c : Int} {ps : List Int} (i : Nat) (hi : i < ps.length) (h : FC l a c (ps.take i)) : (∀ b, FC l a b ps → (0 ≤ rd ps (i : Int) ∧ rd ps (i : Int) < l.length) ∧ (rd_T27 l (rd ps (i : Int))).f0 = c) ∧ ((0 ≤ rd ps (i : Int) ∧ rd ps (i : Int) < l.length) → (rd_T27 l (rd ps (i : Int))).f0 = c → FC l a (rd_T27 l (rd ps (i : Int))).f1 (ps.take (i + 1)) ∧ wsum l (ps.take (i + 1)) = wsum l (ps.take i) + (rd_T27 l (rd ps (i : Int))).f2) := by
  have e : rd ps (i : Int) = ps[i] := by simp [rd, List.getD_eq_getElem?_getD, List.getElem?_eq_getElem hi]
  have e1 : ps.take (i + 1) = ps.take i ++ [ps[i]] := by rw [List.take_add_one, List.getElem?_eq_getElem hi]; rfl
  have e2 : ps = ps.take i ++ (ps[i] :: ps.drop (i + 1)) := by rw [← List.drop_eq_getElem_cons hi, List.take_append_drop]
  rw [e, e1]
  constructor
  · intro b hb
    rw [e2] at hb
    obtain ⟨c', h1, h2⟩ := FC_split _ _ a b hb
    have := FC_uniq _ a c c' h h1
    subst this
    exact ⟨h2.1, h2.2.1⟩
  · intro h1 h2
    refine ⟨FC_append _ _ a c _ h ⟨h1, h2, rfl⟩, ?_⟩
    rw [wsum_append]
    simp [wsum]
def ChainOut (l : List S27) (a b : Int) (ps : List Int) (s : Int) (is : Bool) : Prop := (is = true ↔ FC l a b ps) ∧ (is = true → s = wsum l ps)
set_option maxHeartbeats 3200000 in
set_option maxRecDepth 100000 in
theorem rchain_any (A1 A2 : Option Addr) (c1 c2 : Nat) (bs : List S27) (a b : Int) (ps : List Int) (w : World) (hC : Kd.C k27 w A1 bs.length bs) (hL : Kd.C (Kd.int .i64) w A2 ps.length ps) (hB : ∀ i : Nat, i < bs.length → -24000000000000 ≤ (rd_T27 bs i).f2 ∧ (rd_T27 bs i).f2 ≤ 24000000000000) (h100 : ps.length ≤ 100) :
    Calls Try.prog 64 #[.slice A1 bs.length c1, .int .i64 a, .int .i64 b, .slice A2 ps.length c2] w fun e w' => ∃ s is, e = .returned (.tuple #[.int .i64 s, .bool is]) ∧ Below w.heap.size w w' ∧ ChainOut bs a b ps s is := by
  have HC := Aside0.mk hC
  have HL := Aside0.mk hL
  have HB := Aside0.mk hB
  clear hC hL hB
  go_enter Try.func64, Try.ntmps64
  go_wp2_with fail
  go_loopw [10, 11, 12] (fun v10 v11 v12 wr => ∃ (i : Nat) (c : Int), v12 = .int .i64 (i : Int) ∧ v11 = .int .i64 c ∧ v10 = .int .i64 (wsum bs (ps.take i)) ∧ i ≤ ps.length ∧ Aside0 (FC bs a c (ps.take i) ∧ Below w.heap.size w wr)) (fun _ _ v12 _ => ps.length - (intOf v12).toNat)
  case atStart => exact ⟨0, a, rfl, rfl, rfl, by omega, ⟨rfl, Below.refl _ _⟩⟩
  case round =>
    obtain ⟨i, c, rfl, rfl, rfl, hi, HF⟩ := hrel
    by_cases hlt : i < ps.length
    · have hltb : decide ((i : Int) < (ps.length : Int)) = true := by simpa using hlt
      have hi0 : (0 : Int) ≤ (i : Int) := by omega
      have hi1 : (i : Int) < (ps.length : Int) := by omega
      obtain ⟨_, e1, x0⟩ := Kd.at_int (Kd.C_below HL.out HF.out.2) (i : Int) hi0 hi1
      cases e1
      simp only [Int.toNat_natCast] at x0
      have HS := Aside0.mk (FC_step i hlt HF.out.1)
      have HW := Aside0.mk (wsum_bd HB.out _ a c HF.out.1)
      have HBD := Aside0.mk HF.out.2
      clear HF
      generalize hq : rd ps (i : Int) = q at x0 HS
      clear hq
      by_cases hq : 0 ≤ q ∧ q < bs.length
      · obtain ⟨q0, q1⟩ := hq
        have c1_ : decide (q < 0) = false := by simp; omega
        have c2_ : decide (q ≥ (bs.length : Int)) = false := by simp; omega
        obtain ⟨_, e1, y0, y1, y2⟩ := at_T27 (Kd.C_below HC.out HBD.out) q q0 q1
        cases e1
        by_cases hf : (rd_T27 bs q).f0 = c
        · have hfb : ((rd_T27 bs q).f0 != c) = false := by simpa using hf
          have HN := Aside0.mk (HS.out.2 ⟨q0, q1⟩ hf)
          have HV : Aside0 (wrap64 (wsum bs (ps.take i) + (rd_T27 bs q).f2) = wsum bs (ps.take (i + 1))) := ⟨by
            obtain ⟨m, rfl⟩ : ∃ m : Nat, q = m := ⟨q.toNat, by omega⟩
            have h1 := HB.out m (by omega)
            have h2 := HW.out
            have h3 : (((ps.take i).length : Nat) : Int) * 24000000000000 ≤ 100 * 24000000000000 := Int.mul_le_mul_of_nonneg_right (by rw [List.length_take]; omega) (by omega)
            rw [HN.out.2]
            exact wrap64_id0 _ (by omega) (by omega)⟩
          clear HS HW hf
          generalize rd_T27 bs q = d at y0 y1 y2 hfb HN HV
          obtain ⟨f0, f1, f2⟩ := d
          simp only at y0 y1 y2 hfb
          generalize wsum bs (ps.take i) = s at HV ⊢
          go_wp2_with fail
          go_roundw
          case rel => exact ⟨i + 1, f1, by go_num, rfl, by rw [← HV.out], by omega, ⟨HN.out.1, HBD.out⟩⟩
          case measure => simp [intOf]; omega
        · have hfb : ((rd_T27 bs q).f0 != c) = true := by simpa using hf
          have HN : Aside0 (¬ FC bs a b ps) := ⟨fun h => hf (HS.out.1 b h).2⟩
          clear HS HW hf
          generalize rd_T27 bs q = d at y0 y1 y2 hfb
          obtain ⟨f0, f1, f2⟩ := d
          simp only at y0 y1 y2 hfb
          generalize wsum bs (ps.take i) = s
          go_wp2_with fail
          go_ret2
          exact ⟨_, _, rfl, HBD.out, ⟨(fun h => by cases h), fun h => absurd h HN.out⟩, (fun h => by cases h)⟩
      · have HN : Aside0 (¬ FC bs a b ps) := ⟨fun h => hq (HS.out.1 b h).1⟩
        generalize wsum bs (ps.take i) = s
        rcases (show decide (q < 0) = true ∨ (decide (q < 0) = false ∧ decide (q ≥ (bs.length : Int)) = true) by
          by_cases h1 : q < 0
          · left; simpa using h1
          · right; exact ⟨by simpa using h1, by simp; omega⟩) with c1_ | ⟨c1_, c2_⟩ <;> (
          clear hq HS HW
          go_wp2_with fail
          go_ret2
          exact ⟨_, _, rfl, HBD.out, ⟨(fun h => by cases h), fun h => absurd h HN.out⟩, (fun h => by cases h)⟩)
    · have hltb : decide ((i : Int) < (ps.length : Int)) = false := by simpa using hlt
      have HT : Aside0 (ps.take i = ps) := ⟨List.take_of_length_le (by omega)⟩
      generalize hs : wsum bs (ps.take i) = s
      have HSS := Aside0.mk hs
      have HE : Aside0 ((c == b) = true ↔ FC bs a b ps) := ⟨by
        have h := HF.out.1
        rw [HT.out] at h
        constructor
        · intro e; rw [beq_iff_eq] at e; subst e; exact h
        · intro h'; rw [beq_iff_eq]; exact FC_uniq _ a c b h h'⟩
      generalize hcb : (c == b) = z at HE
      clear hs
      go_wp2_with fail
      go_ret2
      exact ⟨_, _, rfl, HF.out.2, HE.out, fun _ => by rw [← HSS.out, HT.out]⟩
end Go.Proofs.Ytlfopemghafboaa.D
