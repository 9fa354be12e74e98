/- The contracts of the reference's chain, CheckTight and CheckCircle, by walks through their code. No condition beyond each theorem's own hypotheses. -/
import Derived.Test.YtlfopemghafboaaDe7
namespace Go.Proofs.Ytlfopemghafboaa.D
open Go.RowKit Go.Proofs.YtlfopemghafboaaW.PrintWords Go.Proofs.YtlfopemghafboaaW.PrintLast Go.Proofs.YtlfopemghafboaaW.PrintMore
set_option linter.unusedVariables false
set_option linter.unusedSimpArgs false
theorem FC_uniq {l : List S27} (ps : List Int) (a b b' : Int) (h : FC l a b ps) (h' : FC l a b' ps) : b = b' := by
  induction ps generalizing a with
  | nil => simp only [FC] at h h'; omega
  | cons i r ih => exact ih _ h.2.2 h'.2.2
theorem FC_split {l : List S27} (ps qs : List Int) (a b : Int) (h : FC l a b (ps ++ qs)) : ∃ c, FC l a c ps ∧ FC l c b qs := by
  induction ps generalizing a with
  | nil => exact ⟨a, rfl, h⟩
  | cons i r ih =>
    obtain ⟨c, h1, h2⟩ := ih _ h.2.2
    exact ⟨c, ⟨h.1, h.2.1, h1⟩, h2⟩
/-- A chain, bind by bind. -/
theorem FC_step {l : List S27} {a c : Int} {ps : List Int} (i : Nat) (hi : i < ps.length) (h : FC l a c (ps.take i)) : (∀ b, FC l a b ps → (0 ≤ rd ps (i : Int) ∧ rd ps (i : Int) < l.length) ∧ (rd_T27 l (rd ps (i : Int))).f0 = c) ∧ ((0 ≤ rd ps (i : Int) ∧ rd ps (i : Int) < l.length) → (rd_T27 l (rd ps (i : Int))).f0 = c → FC l a (rd_T27 l (rd ps (i : Int))).f1 (ps.take (i + 1)) ∧ wsum l (ps.take (i + 1)) = wsum l (ps.take i) + (rd_T27 l (rd ps (i : Int))).f2) := by
  have e : rd ps (i : Int) = ps[i] := by simp [rd, List.getD_eq_getElem?_getD, List.getElem?_eq_getElem hi]
  have e1 : ps.take (i + 1) = ps.take i ++ [ps[i]] := by rw [List.take_add_one, List.getElem?_eq_getElem hi]; rfl
  have e2 : ps = ps.take i ++ (ps[i] :: ps.drop (i + 1)) := by rw [← List.drop_eq_getElem_cons hi, List.take_append_drop]
  rw [e, e1]
  constructor
  · intro b hb
    rw [e2] at hb
    obtain ⟨c', h1, h2⟩ := FC_split _ _ a b hb
    have := FC_uniq _ a c c' h h1
    subst this
    exact ⟨h2.1, h2.2.1⟩
  · intro h1 h2
    refine ⟨FC_append _ _ a c _ h ⟨h1, h2, rfl⟩, ?_⟩
    rw [wsum_append]
    simp [wsum]
def ChainOut (l : List S27) (a b : Int) (ps : List Int) (s : Int) (is : Bool) : Prop := (is = true ↔ FC l a b ps) ∧ (is = true → s = wsum l ps)
set_option maxHeartbeats 3200000 in
set_option maxRecDepth 100000 in
theorem rchain_any (A1 A2 : Option Addr) (c1 c2 : Nat) (bs : List S27) (a b : Int) (ps : List Int) (w : World) (hC : Kd.C k27 w A1 bs.length bs) (hL : Kd.C (Kd.int .i64) w A2 ps.length ps) (hB : ∀ i : Nat, i < bs.length → -24000000000000 ≤ (rd_T27 bs i).f2 ∧ (rd_T27 bs i).f2 ≤ 24000000000000) (h100 : ps.length ≤ 100) :
    Calls Try.prog 64 #[.slice A1 bs.length c1, .int .i64 a, .int .i64 b, .slice A2 ps.length c2] w fun e w' => ∃ s is, e = .returned (.tuple #[.int .i64 s, .bool is]) ∧ Below w.heap.size w w' ∧ ChainOut bs a b ps s is := by
  have HC := Aside0.mk hC
  have HL := Aside0.mk hL
  have HB := Aside0.mk hB
  clear hC hL hB
  go_enter Try.func64, Try.ntmps64
  go_wp2_with fail
  go_loopw [10, 11, 12] (fun v10 v11 v12 wr => ∃ (i : Nat) (c : Int), v12 = .int .i64 (i : Int) ∧ v11 = .int .i64 c ∧ v10 = .int .i64 (wsum bs (ps.take i)) ∧ i ≤ ps.length ∧ Aside0 (FC bs a c (ps.take i) ∧ Below w.heap.size w wr)) (fun _ _ v12 _ => ps.length - (intOf v12).toNat)
  case atStart => exact ⟨0, a, rfl, rfl, rfl, by omega, ⟨rfl, Below.refl _ _⟩⟩
  case round =>
    obtain ⟨i, c, rfl, rfl, rfl, hi, HF⟩ := hrel
    by_cases hlt : i < ps.length
    · have hltb : decide ((i : Int) < (ps.length : Int)) = true := by simpa using hlt
      have hi0 : (0 : Int) ≤ (i : Int) := by omega
      have hi1 : (i : Int) < (ps.length : Int) := by omega
      obtain ⟨_, e1, x0⟩ := Kd.at_int (Kd.C_below HL.out HF.out.2) (i : Int) hi0 hi1
      cases e1
      simp only [Int.toNat_natCast] at x0
      have HS := Aside0.mk (FC_step i hlt HF.out.1)
      have HW := Aside0.mk (wsum_bd HB.out _ a c HF.out.1)
      have HBD := Aside0.mk HF.out.2
      clear HF
      generalize hq : rd ps (i : Int) = q at x0 HS
      clear hq
      by_cases hq : 0 ≤ q ∧ q < bs.length
      · obtain ⟨q0, q1⟩ := hq
        have c1_ : decide (q < 0) = false := by simp; omega
        have c2_ : decide (q ≥ (bs.length : Int)) = false := by simp; omega
        obtain ⟨_, e1, y0, y1, y2⟩ := at_T27 (Kd.C_below HC.out HBD.out) q q0 q1
        cases e1
        by_cases hf : (rd_T27 bs q).f0 = c
        · have hfb : ((rd_T27 bs q).f0 != c) = false := by simpa using hf
          have HN := Aside0.mk (HS.out.2 ⟨q0, q1⟩ hf)
          have HV : Aside0 (wrap64 (wsum bs (ps.take i) + (rd_T27 bs q).f2) = wsum bs (ps.take (i + 1))) := ⟨by
            obtain ⟨m, rfl⟩ : ∃ m : Nat, q = m := ⟨q.toNat, by omega⟩
            have h1 := HB.out m (by omega)
            have h2 := HW.out
            have h3 : (((ps.take i).length : Nat) : Int) * 24000000000000 ≤ 100 * 24000000000000 := Int.mul_le_mul_of_nonneg_right (by rw [List.length_take]; omega) (by omega)
            rw [HN.out.2]
            exact wrap64_id0 _ (by omega) (by omega)⟩
          clear HS HW hf
          generalize rd_T27 bs q = d at y0 y1 y2 hfb HN HV
          obtain ⟨f0, f1, f2⟩ := d
          simp only at y0 y1 y2 hfb
          generalize wsum bs (ps.take i) = s at HV ⊢
          go_wp2_with fail
          go_roundw
          case rel => exact ⟨i + 1, f1, by go_num, rfl, by rw [← HV.out], by omega, ⟨HN.out.1, HBD.out⟩⟩
          case measure => simp [intOf]; omega
        · have hfb : ((rd_T27 bs q).f0 != c) = true := by simpa using hf
          have HN : Aside0 (¬ FC bs a b ps) := ⟨fun h => hf (HS.out.1 b h).2⟩
          clear HS HW hf
          generalize rd_T27 bs q = d at y0 y1 y2 hfb
          obtain ⟨f0, f1, f2⟩ := d
          simp only at y0 y1 y2 hfb
          generalize wsum bs (ps.take i) = s
          go_wp2_with fail
          go_ret2
          exact ⟨_, _, rfl, HBD.out, ⟨(fun h => by cases h), fun h => absurd h HN.out⟩, (fun h => by cases h)⟩
      · have HN : Aside0 (¬ FC bs a b ps) := ⟨fun h => hq (HS.out.1 b h).1⟩
        generalize wsum bs (ps.take i) = s
        rcases (show decide (q < 0) = true ∨ (decide (q < 0) = false ∧ decide (q ≥ (bs.length : Int)) = true) by
          by_cases h1 : q < 0
          · left; simpa using h1
          · right; exact ⟨by simpa using h1, by simp; omega⟩) with c1_ | ⟨c1_, c2_⟩ <;> (
          clear hq HS HW
          go_wp2_with fail
          go_ret2
          exact ⟨_, _, rfl, HBD.out, ⟨(fun h => by cases h), fun h => absurd h HN.out⟩, (fun h => by cases h)⟩)
    · have hltb : decide ((i : Int) < (ps.length : Int)) = false := by simpa using hlt
      have HT : Aside0 (ps.take i = ps) := ⟨List.take_of_length_le (by omega)⟩
      generalize hs : wsum bs (ps.take i) = s
      have HSS := Aside0.mk hs
      have HE : Aside0 ((c == b) = true ↔ FC bs a b ps) := ⟨by
        have h := HF.out.1
        rw [HT.out] at h
        constructor
        · intro e; rw [beq_iff_eq] at e; subst e; exact h
        · intro h'; rw [beq_iff_eq]; exact FC_uniq _ a c b h h'⟩
      generalize hcb : (c == b) = z at HE
      clear hs
      go_wp2_with fail
      go_ret2
      exact ⟨_, _, rfl, HF.out.2, HE.out, fun _ => by rw [← HSS.out, HT.out]⟩
theorem checktight_val {R : List S42} {E : List S80} (hK : PlanOK R E) (h24 : E.length ≤ 24) (a b m : Int) (ha : 0 ≤ a ∧ a < E.length) (hb : 0 ≤ b ∧ b < E.length) (ps : List Int) (r : Int) (h : dr_CheckTight.f R E a b m ps = some r) :
    (100 < ps.length → r = 313) ∧ (ps.length ≤ 100 → ∀ s is, ChainOut (bindsL R E) a b ps s is → r = if is = true ∧ s ≤ m then 0 else 313) := by
  have hO := bindsL_ok0 hK h24
  unfold dr_CheckTight.f at h
  rw [if_pos ((planOK_iff R E).2 hK), if_pos (by simp [betweenB]; omega)] at h
  injection h with h
  subst h
  by_cases h0 : ps.length = 0
  · rw [if_pos h0]
    have hn : ps = [] := List.length_eq_zero_iff.1 h0
    subst hn
    refine ⟨fun h => by simp at h, fun _ s is hc => ?_⟩
    obtain ⟨c1, c2⟩ := hc
    simp only [FC] at c1
    by_cases e : a = b
    · have e1 := c1.2 e
      have e2 := c2 e1
      simp only [wsum] at e2
      subst e2
      by_cases hm : 0 ≤ m
      · rw [if_pos ⟨e, hm⟩, if_pos ⟨e1, hm⟩]
      · rw [if_neg (fun h => hm h.2), if_neg (fun h => hm h.2)]
    · rw [if_neg (fun h => e h.1), if_neg (fun h => e (c1.1 h.1))]
  · rw [if_neg h0]
    refine ⟨fun h => ?_, fun h100 s is hc => ?_⟩
    · rw [if_neg]
      rintro ⟨e1, _⟩
      have := chainF_to hO.bd hO.nn (by omega) ps _ _ _ (show chainF (bindsL R E) ps = ((chainF (bindsL R E) ps).1, (chainF (bindsL R E) ps).2.1, (chainF (bindsL R E) ps).2.2.1, true) by rw [← e1])
      omega
    · obtain ⟨c1, c2⟩ := hc
      by_cases hF : FC (bindsL R E) a b ps
      · have e1 := c1.2 hF
        have e2 := c2 e1
        subst e2
        rw [chainF_of hO.bd hO.nn (by omega) ps a b hF (by omega) h100]
        show (if true = true ∧ a = a ∧ b = b ∧ wsum (bindsL R E) ps ≤ m then (0 : Int) else 313) = _
        by_cases hm : wsum (bindsL R E) ps ≤ m
        · rw [if_pos ⟨rfl, rfl, rfl, hm⟩, if_pos ⟨e1, hm⟩]
        · rw [if_neg (fun h => hm h.2.2.2), if_neg (fun h => hm h.2)]
      · rw [if_neg, if_neg (fun h => hF (c1.1 h.1))]
        rintro ⟨e1, e2, e3, _⟩
        have := (chainF_to hO.bd hO.nn (by omega) ps _ _ _ (show chainF (bindsL R E) ps = ((chainF (bindsL R E) ps).1, (chainF (bindsL R E) ps).2.1, (chainF (bindsL R E) ps).2.2.1, true) by rw [← e1])).1
        rw [e2, e3] at this
        exact hF this
set_option maxHeartbeats 3200000 in
set_option maxRecDepth 100000 in
theorem rchecktight_any (R : List S42) (E : List S80) (A0 A1 : Option Addr) (c0 c1 : Nat) (w : World) (hr0 : Kd.C k42 w A0 R.length R) (hc0 : R.length ≤ c0) (hr1 : Kd.C k80 w A1 E.length E) (hc1 : E.length ≤ c1) (h24 : E.length ≤ 24) (a b m : Int) (A2 : Option Addr) (c2 : Nat) (ps : List Int) (hr2 : Kd.C (Kd.int .i64) w A2 ps.length ps) (r : Int) (h : dr_CheckTight.f R E a b m ps = some r) :
    Calls Try.prog 19 #[.agg #[.slice A0 R.length c0, .slice A1 E.length c1], .agg #[.int .i64 a, .int .i64 b, .int .i64 m], .slice A2 ps.length c2] w fun e w' => e = .returned (.int .i64 r) ∧ Below w.heap.size w w' := by
  have HR0 := Aside0.mk hr0
  have HR1 := Aside0.mk hr1
  have HC0 := Aside0.mk hc0
  have HC1 := Aside0.mk hc1
  have HI : Aside0 (rf_IsPlan.f 1000 R E = some (planOK R E)) := ⟨isPlan_val R E 1000 (by omega)⟩
  clear hr0 hr1 hc0 hc1
  have HR2 := Aside0.mk hr2
  clear hr2
  cases hpl : planOK R E
  · rw [hpl] at HI
    unfold dr_CheckTight.f at h
    rw [if_neg (by rw [hpl]; decide)] at h
    injection h with h
    subst h
    clear hpl
    go_enter Try.func19, Try.ntmps19
    go_wp2_with (first
      | ((with_reducible refine gate_dst (N := 3) rfl ?_); refine box_event ?hg (N := 3) ?hd (cs := #[.slice A0 R.length c0, .slice A1 E.length c1]) (t := 25) ?hr ?_; (case hd => rfl); (case hg => rfl); (case hr => first | (go_simp; done) | (go_simp; rfl)); intro gb hg w2 hbox hb; have HB := Aside0.mk hb; have BX := Aside0.mk hbox; have p0 : w2.cell? ⟨gb, 0, none⟩ = some (.slice A0 R.length c0) := (blk_cell hbox 0).trans rfl; have p1 : w2.cell? ⟨gb, 1, none⟩ = some (.slice A1 E.length c1) := (blk_cell hbox 1).trans rfl; clear hb hbox hg)
      | ((with_reducible refine gate_dst (N := 4) rfl ?_); refine box_event ?hg (N := 4) ?hd (cs := #[.int .i64 a, .int .i64 b, .int .i64 m]) (t := 27) ?hr ?_; (case hd => rfl); (case hg => rfl); (case hr => first | (go_simp; done) | (go_simp; rfl)); intro gd hg wb hbox hb; have HBb := Aside0.mk (below_step HB.out hb); have BXb := Aside0.mk (blk_below BX.out hb); have BD := Aside0.mk hbox; clear p0 p1; have p0 : wb.cell? ⟨gb, 0, none⟩ = some (.slice A0 R.length c0) := (blk_cell BXb.out 0).trans rfl; have p1 : wb.cell? ⟨gb, 1, none⟩ = some (.slice A1 E.length c1) := (blk_cell BXb.out 1).trans rfl; clear hb hbox hg)
      | (go_at_call 28; refine (rf_IsPlan.calls 1000 A0 c0 R A1 c1 E _ _ (Kd.C_below HR0.out HBb.out) HC0.out (Kd.C_below HR1.out HBb.out) HC1.out HI.out).mono ?_; rintro e w3 ⟨rfl, hb3⟩; have HB3 := Aside0.mk (below_step HBb.out hb3); have BX3 := Aside0.mk (blk_below BXb.out hb3); have BD3 := Aside0.mk (blk_below BD.out hb3); clear p0 p1; have p0 : w3.cell? ⟨gb, 0, none⟩ = some (.slice A0 R.length c0) := (blk_cell BX3.out 0).trans rfl; have p1 : w3.cell? ⟨gb, 1, none⟩ = some (.slice A1 E.length c1) := (blk_cell BX3.out 1).trans rfl; have d0 : w3.cell? ⟨gd, 0, none⟩ = some (.int .i64 a) := (blk_cell BD3.out 0).trans rfl; have d1 : w3.cell? ⟨gd, 1, none⟩ = some (.int .i64 b) := (blk_cell BD3.out 1).trans rfl; have d2 : w3.cell? ⟨gd, 2, none⟩ = some (.int .i64 m) := (blk_cell BD3.out 2).trans rfl; clear hb3))
    go_ret
    exact ⟨rfl, HB3.out⟩
  · rw [hpl] at HI
    have hK := (planOK_iff R E).1 hpl
    by_cases hin : (0 ≤ a ∧ a < E.length) ∧ (0 ≤ b ∧ b < E.length)
    · obtain ⟨ha, hb⟩ := hin
      obtain ⟨v1, v2⟩ := checktight_val hK h24 a b m ha hb ps r h
      have V2 := Aside0.mk v2
      have HK := Aside0.mk hK
      obtain ⟨f1, f2⟩ := ha
      obtain ⟨f3, f4⟩ := hb
      have c1_ : decide (a < 0) = false := by simp; omega
      have c2_ : decide (a ≥ (E.length : Int)) = false := by simp; omega
      have c3_ : decide (b < 0) = false := by simp; omega
      have c4_ : decide (b ≥ (E.length : Int)) = false := by simp; omega
      clear h v2 hpl hK
      by_cases h100 : ps.length > 100
      · have hb_ : decide ((ps.length : Int) > 100) = true := by simp; omega
        have hr := v1 h100
        subst hr
        clear v1 V2
        go_enter Try.func19, Try.ntmps19
        go_wp2_with (first
      | ((with_reducible refine gate_dst (N := 3) rfl ?_); refine box_event ?hg (N := 3) ?hd (cs := #[.slice A0 R.length c0, .slice A1 E.length c1]) (t := 25) ?hr ?_; (case hd => rfl); (case hg => rfl); (case hr => first | (go_simp; done) | (go_simp; rfl)); intro gb hg w2 hbox hb; have HB := Aside0.mk hb; have BX := Aside0.mk hbox; have p0 : w2.cell? ⟨gb, 0, none⟩ = some (.slice A0 R.length c0) := (blk_cell hbox 0).trans rfl; have p1 : w2.cell? ⟨gb, 1, none⟩ = some (.slice A1 E.length c1) := (blk_cell hbox 1).trans rfl; clear hb hbox hg)
      | ((with_reducible refine gate_dst (N := 4) rfl ?_); refine box_event ?hg (N := 4) ?hd (cs := #[.int .i64 a, .int .i64 b, .int .i64 m]) (t := 27) ?hr ?_; (case hd => rfl); (case hg => rfl); (case hr => first | (go_simp; done) | (go_simp; rfl)); intro gd hg wb hbox hb; have HBb := Aside0.mk (below_step HB.out hb); have BXb := Aside0.mk (blk_below BX.out hb); have BD := Aside0.mk hbox; clear p0 p1; have p0 : wb.cell? ⟨gb, 0, none⟩ = some (.slice A0 R.length c0) := (blk_cell BXb.out 0).trans rfl; have p1 : wb.cell? ⟨gb, 1, none⟩ = some (.slice A1 E.length c1) := (blk_cell BXb.out 1).trans rfl; clear hb hbox hg)
      | (go_at_call 28; refine (rf_IsPlan.calls 1000 A0 c0 R A1 c1 E _ _ (Kd.C_below HR0.out HBb.out) HC0.out (Kd.C_below HR1.out HBb.out) HC1.out HI.out).mono ?_; rintro e w3 ⟨rfl, hb3⟩; have HB3 := Aside0.mk (below_step HBb.out hb3); have BX3 := Aside0.mk (blk_below BXb.out hb3); have BD3 := Aside0.mk (blk_below BD.out hb3); clear p0 p1; have p0 : w3.cell? ⟨gb, 0, none⟩ = some (.slice A0 R.length c0) := (blk_cell BX3.out 0).trans rfl; have p1 : w3.cell? ⟨gb, 1, none⟩ = some (.slice A1 E.length c1) := (blk_cell BX3.out 1).trans rfl; have d0 : w3.cell? ⟨gd, 0, none⟩ = some (.int .i64 a) := (blk_cell BD3.out 0).trans rfl; have d1 : w3.cell? ⟨gd, 1, none⟩ = some (.int .i64 b) := (blk_cell BD3.out 1).trans rfl; have d2 : w3.cell? ⟨gd, 2, none⟩ = some (.int .i64 m) := (blk_cell BD3.out 2).trans rfl; clear hb3))
        go_ret
        exact ⟨rfl, HB3.out⟩
      · have hb_ : decide ((ps.length : Int) > 100) = false := by simp; omega
        have hl : ps.length ≤ 100 := by omega
        clear v1
        go_enter Try.func19, Try.ntmps19
        go_wp2_with (first
      | ((with_reducible refine gate_dst (N := 3) rfl ?_); refine box_event ?hg (N := 3) ?hd (cs := #[.slice A0 R.length c0, .slice A1 E.length c1]) (t := 25) ?hr ?_; (case hd => rfl); (case hg => rfl); (case hr => first | (go_simp; done) | (go_simp; rfl)); intro gb hg w2 hbox hb; have HB := Aside0.mk hb; have BX := Aside0.mk hbox; have p0 : w2.cell? ⟨gb, 0, none⟩ = some (.slice A0 R.length c0) := (blk_cell hbox 0).trans rfl; have p1 : w2.cell? ⟨gb, 1, none⟩ = some (.slice A1 E.length c1) := (blk_cell hbox 1).trans rfl; clear hb hbox hg)
      | ((with_reducible refine gate_dst (N := 4) rfl ?_); refine box_event ?hg (N := 4) ?hd (cs := #[.int .i64 a, .int .i64 b, .int .i64 m]) (t := 27) ?hr ?_; (case hd => rfl); (case hg => rfl); (case hr => first | (go_simp; done) | (go_simp; rfl)); intro gd hg wb hbox hb; have HBb := Aside0.mk (below_step HB.out hb); have BXb := Aside0.mk (blk_below BX.out hb); have BD := Aside0.mk hbox; clear p0 p1; have p0 : wb.cell? ⟨gb, 0, none⟩ = some (.slice A0 R.length c0) := (blk_cell BXb.out 0).trans rfl; have p1 : wb.cell? ⟨gb, 1, none⟩ = some (.slice A1 E.length c1) := (blk_cell BXb.out 1).trans rfl; clear hb hbox hg)
      | (go_at_call 28; refine (rf_IsPlan.calls 1000 A0 c0 R A1 c1 E _ _ (Kd.C_below HR0.out HBb.out) HC0.out (Kd.C_below HR1.out HBb.out) HC1.out HI.out).mono ?_; rintro e w3 ⟨rfl, hb3⟩; have HB3 := Aside0.mk (below_step HBb.out hb3); have BX3 := Aside0.mk (blk_below BXb.out hb3); have BD3 := Aside0.mk (blk_below BD.out hb3); clear p0 p1; have p0 : w3.cell? ⟨gb, 0, none⟩ = some (.slice A0 R.length c0) := (blk_cell BX3.out 0).trans rfl; have p1 : w3.cell? ⟨gb, 1, none⟩ = some (.slice A1 E.length c1) := (blk_cell BX3.out 1).trans rfl; have d0 : w3.cell? ⟨gd, 0, none⟩ = some (.int .i64 a) := (blk_cell BD3.out 0).trans rfl; have d1 : w3.cell? ⟨gd, 1, none⟩ = some (.int .i64 b) := (blk_cell BD3.out 1).trans rfl; have d2 : w3.cell? ⟨gd, 2, none⟩ = some (.int .i64 m) := (blk_cell BD3.out 2).trans rfl; clear hb3))
        have hS0 : w3.cell? ⟨gb, 0, none⟩ = some (.slice A0 R.length c0) ∧ w3.cell? ⟨gb, 1, none⟩ = some (.slice A1 E.length c1) ∧ w3.cell? ⟨gd, 0, none⟩ = some (.int .i64 a) ∧ w3.cell? ⟨gd, 1, none⟩ = some (.int .i64 b) := ⟨p0, p1, d0, d1⟩
        go_region_held3 (fun w' => w'.cell? ⟨gb, 0, none⟩ = some (.slice A0 R.length c0) ∧ w'.cell? ⟨gb, 1, none⟩ = some (.slice A1 E.length c1) ∧ w'.cell? ⟨gd, 0, none⟩ = some (.int .i64 a) ∧ w'.cell? ⟨gd, 1, none⟩ = some (.int .i64 b)) ((first | exact hS0 | exact hS1 | exact hS2)) ((first
          | (go_at_call 65; refine (rbinds_any R E A0 A1 c0 c1 _ (Kd.C_below HR0.out (below_drew1 HB3.out)) HC0.out (Kd.C_below HR1.out (below_drew1 HB3.out)) HC1.out HK.out).mono ?_; rintro e w4 ⟨v4, rfl, hO⟩; obtain ⟨A4, c4, e4, _, hC4⟩ := hO.reads; subst e4; have hb4 := hO.2; have HB4 := Aside0.mk (below_step (below_drew1 HB3.out) hb4); have BD4 := Aside0.mk (blk_below (blk_drew BD3.out) hb4); have hS1 : w4.cell? ⟨gb, 0, none⟩ = some (.slice A0 R.length c0) ∧ w4.cell? ⟨gb, 1, none⟩ = some (.slice A1 E.length c1) ∧ w4.cell? ⟨gd, 0, none⟩ = some (.int .i64 a) ∧ w4.cell? ⟨gd, 1, none⟩ = some (.int .i64 b) := ⟨bkeep_ hb4 hS0.1, bkeep_ hb4 hS0.2.1, bkeep_ hb4 hS0.2.2.1, bkeep_ hb4 hS0.2.2.2⟩; have HC4 := Aside0.mk hC4; clear hO hC4 hb4)
          | (go_at_call 64; refine (rchain_any A4 A2 c4 c2 (bindsL R E) a b ps _ HC4.out (Kd.C_below HR2.out HB4.out) (bindsL_ok0 HK.out h24).bd hl).mono ?_; rintro e w5 ⟨s, is, rfl, hb5, hCO⟩; have HB5 := Aside0.mk (below_step HB4.out hb5); have BD5 := Aside0.mk (blk_below BD4.out hb5); have HCO := Aside0.mk hCO; have hS2 : w5.cell? ⟨gb, 0, none⟩ = some (.slice A0 R.length c0) ∧ w5.cell? ⟨gb, 1, none⟩ = some (.slice A1 E.length c1) ∧ w5.cell? ⟨gd, 0, none⟩ = some (.int .i64 a) ∧ w5.cell? ⟨gd, 1, none⟩ = some (.int .i64 b) := ⟨(hb5.cell (World.block_lt_of_cell? _ _ hS1.1)).trans hS1.1, (hb5.cell (World.block_lt_of_cell? _ _ hS1.2.1)).trans hS1.2.1, (hb5.cell (World.block_lt_of_cell? _ _ hS1.2.2.1)).trans hS1.2.2.1, (hb5.cell (World.block_lt_of_cell? _ _ hS1.2.2.2)).trans hS1.2.2.2⟩; clear hb5 hCO)))
        have hr := V2.out hl s is HCO.out
        clear V2 HCO d0 d1 d2 p0 p1 hS0 hS1 hS2 HC4
        have d2 : w5.cell? ⟨gd, 2, none⟩ = some (.int .i64 m) := (blk_cell BD5.out 2).trans rfl
        cases is
        · rw [if_neg (by rintro ⟨h, _⟩; cases h)] at hr
          subst hr
          go_wp2_with fail
          go_ret
          exact ⟨rfl, HB5.out⟩
        · by_cases hm : s ≤ m
          · have hmb : decide (s > m) = false := by simp; omega
            rw [if_pos ⟨rfl, hm⟩] at hr
            subst hr
            clear hm
            go_wp2_with fail
            go_ret
            exact ⟨rfl, HB5.out⟩
          · have hmb : decide (s > m) = true := by simp; omega
            rw [if_neg (fun h => hm h.2)] at hr
            subst hr
            clear hm
            go_wp2_with fail
            go_ret
            exact ⟨rfl, HB5.out⟩
    · unfold dr_CheckTight.f at h
      rw [if_pos hpl, if_neg (by simp [betweenB]; omega)] at h
      injection h with h
      subst h
      clear hpl hK
      rcases out_four hin with c1_ | ⟨c1_, c2_ | ⟨c2_, c3_ | ⟨c3_, c4_⟩⟩⟩ <;> (
        clear hin
        go_enter Try.func19, Try.ntmps19
        go_wp2_with (first
      | ((with_reducible refine gate_dst (N := 3) rfl ?_); refine box_event ?hg (N := 3) ?hd (cs := #[.slice A0 R.length c0, .slice A1 E.length c1]) (t := 25) ?hr ?_; (case hd => rfl); (case hg => rfl); (case hr => first | (go_simp; done) | (go_simp; rfl)); intro gb hg w2 hbox hb; have HB := Aside0.mk hb; have BX := Aside0.mk hbox; have p0 : w2.cell? ⟨gb, 0, none⟩ = some (.slice A0 R.length c0) := (blk_cell hbox 0).trans rfl; have p1 : w2.cell? ⟨gb, 1, none⟩ = some (.slice A1 E.length c1) := (blk_cell hbox 1).trans rfl; clear hb hbox hg)
      | ((with_reducible refine gate_dst (N := 4) rfl ?_); refine box_event ?hg (N := 4) ?hd (cs := #[.int .i64 a, .int .i64 b, .int .i64 m]) (t := 27) ?hr ?_; (case hd => rfl); (case hg => rfl); (case hr => first | (go_simp; done) | (go_simp; rfl)); intro gd hg wb hbox hb; have HBb := Aside0.mk (below_step HB.out hb); have BXb := Aside0.mk (blk_below BX.out hb); have BD := Aside0.mk hbox; clear p0 p1; have p0 : wb.cell? ⟨gb, 0, none⟩ = some (.slice A0 R.length c0) := (blk_cell BXb.out 0).trans rfl; have p1 : wb.cell? ⟨gb, 1, none⟩ = some (.slice A1 E.length c1) := (blk_cell BXb.out 1).trans rfl; clear hb hbox hg)
      | (go_at_call 28; refine (rf_IsPlan.calls 1000 A0 c0 R A1 c1 E _ _ (Kd.C_below HR0.out HBb.out) HC0.out (Kd.C_below HR1.out HBb.out) HC1.out HI.out).mono ?_; rintro e w3 ⟨rfl, hb3⟩; have HB3 := Aside0.mk (below_step HBb.out hb3); have BX3 := Aside0.mk (blk_below BXb.out hb3); have BD3 := Aside0.mk (blk_below BD.out hb3); clear p0 p1; have p0 : w3.cell? ⟨gb, 0, none⟩ = some (.slice A0 R.length c0) := (blk_cell BX3.out 0).trans rfl; have p1 : w3.cell? ⟨gb, 1, none⟩ = some (.slice A1 E.length c1) := (blk_cell BX3.out 1).trans rfl; have d0 : w3.cell? ⟨gd, 0, none⟩ = some (.int .i64 a) := (blk_cell BD3.out 0).trans rfl; have d1 : w3.cell? ⟨gd, 1, none⟩ = some (.int .i64 b) := (blk_cell BD3.out 1).trans rfl; have d2 : w3.cell? ⟨gd, 2, none⟩ = some (.int .i64 m) := (blk_cell BD3.out 2).trans rfl; clear hb3))
        go_ret
        exact ⟨rfl, HB3.out⟩)
end Go.Proofs.Ytlfopemghafboaa.D
