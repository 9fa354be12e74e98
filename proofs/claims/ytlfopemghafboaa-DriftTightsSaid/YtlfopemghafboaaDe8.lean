/- The contract of the reference's Holds, by a walk through its code. No condition beyond each theorem's own hypotheses. -/
import Derived.Test.YtlfopemghafboaaDe5
import Derived.Test.YtlfopemghafboaaDe7
import Derived.Test.YtlfopemghafboaaDx6
namespace Go.Proofs.Ytlfopemghafboaa.D
open Go.RowKit Go.Proofs.YtlfopemghafboaaW.PrintWords Go.Proofs.YtlfopemghafboaaW.PrintLast Go.Proofs.YtlfopemghafboaaW.PrintMore
set_option linter.unusedVariables false
set_option linter.unusedSimpArgs false
theorem isDem_val (R : List S42) (E : List S80) (d : S56) : rf_IsDemand.f R E d.f0 d.f1 d.f2 d.f3 = some (demOK E.length d) := by
  have h := demOK_iff E.length d
  have ht : (demOK E.length d = true) ↔ _ := h
  unfold rf_IsDemand.f
  by_cases c : demOK E.length d = true
  · have := h.1 c
    rw [c, if_pos (by omega), if_pos (by omega), if_pos (by omega), if_pos (by omega), if_pos (by omega), if_pos (by omega)]
    by_cases c3 : d.f3 = -1
    · rw [if_pos c3]
    · rw [if_neg c3, if_pos (by omega), decide_eq_true (by omega)]
  · have hn : ¬ ((0 ≤ d.f0 ∧ d.f0 < E.length) ∧ (0 ≤ d.f1 ∧ d.f1 < E.length) ∧ (0 ≤ d.f2 ∧ d.f2 ≤ 1000000) ∧ (d.f3 = -1 ∨ (d.f2 ≤ d.f3 ∧ d.f3 ≤ 1000000))) := fun hh => c (h.2 hh)
    have cf : demOK E.length d = false := by simpa using c
    rw [cf]
    split
    · split
      · split
        · split
          · split
            · split
              · split
                · omega
                · split
                  · rw [decide_eq_false (by omega)]
                  · rfl
              · rfl
            · rfl
          · rfl
        · rfl
      · rfl
    · rfl
theorem idxOf_no {α : Type} (p : α → Bool) (xs : List α) (d : α) (h : ∀ i : Nat, i < xs.length → p (xs.getD i d) = false) : idxOf p xs = -1 := by
  unfold idxOf
  rw [List.findIdx?_eq_none_iff.2 (fun x hx => by
    obtain ⟨i, hi, rfl⟩ := List.getElem_of_mem hx
    have := h i hi
    rwa [List.getD_eq_getElem?_getD, List.getElem?_eq_getElem hi] at this)]
/-- What Holds tells where a demand is none. -/
theorem holds_bad {R : List S42} {E : List S80} {l : List S56} (hpl : planOK R E = true) (i : Nat) (hi : i < l.length) (hd : demOK E.length (rd_T56 l (i : Int)) = false) : dr_Holds.f R E l = some (0, 314) := by
  unfold dr_Holds.f
  have e : rd_T56 l (i : Int) = l[i] := by simp [rd_T56, List.getD_eq_getElem?_getD, List.getElem?_eq_getElem hi]
  have hm : rd_T56 l (i : Int) ∈ l := by rw [e]; exact List.getElem_mem hi
  rw [if_pos hpl, if_pos (.inr (List.any_eq_true.2 ⟨rd_T56 l (i : Int), hm, by rw [hd]; rfl⟩))]
theorem holds_all {R : List S42} {E : List S80} (hK : PlanOK R E) (h24 : E.length ≤ 24) {l : List S56} (hl : l.length ≤ 200) (h : ∀ j : Nat, j < l.length → demOK E.length (rd_T56 l (j : Int)) = true) : dr_Holds.f R E l = some (idxOf (breachB R E) l, 0) :=
  holds_api hK h24 l hl (fun d hd => by
    obtain ⟨j, hj, e⟩ := List.getElem_of_mem hd
    have := h j hj
    rw [show rd_T56 l (j : Int) = l[j] by simp [rd_T56, List.getD_eq_getElem?_getD, List.getElem?_eq_getElem hj], e] at this
    exact this)
set_option maxHeartbeats 3200000 in
set_option maxRecDepth 100000 in
theorem rholds_any (R : List S42) (E : List S80) (A0 A1 : Option Addr) (c0 c1 : Nat) (w : World) (hr0 : Kd.C k42 w A0 R.length R) (hc0 : R.length ≤ c0) (hr1 : Kd.C k80 w A1 E.length E) (hc1 : E.length ≤ c1) (h24 : E.length ≤ 24) (A : Option Addr) (c : Nat) (l : List S56) (hr2 : Kd.C k56 w A l.length l) (hc2 : l.length ≤ c) (k er : Int) (h : dr_Holds.f R E l = some (k, er)) :
    Calls Try.prog 22 #[.agg #[.slice A0 R.length c0, .slice A1 E.length c1], .slice A l.length c] w fun e w' => e = .returned (.tuple #[.int .i64 k, .int .i64 er]) ∧ Below w.heap.size w w' := by
  have HR0 := Aside0.mk hr0
  have HR1 := Aside0.mk hr1
  have HC0 := Aside0.mk hc0
  have HC1 := Aside0.mk hc1
  have HI : Aside0 (rf_IsPlan.f 1000 R E = some (planOK R E)) := ⟨isPlan_val R E 1000 (by omega)⟩
  clear hr0 hr1 hc0 hc1
  cases hpl : planOK R E
  · rw [hpl] at HI
    unfold dr_Holds.f at h
    rw [if_neg (by rw [hpl]; decide)] at h
    injection h with h; injection h with e1 e2
    subst e1; subst e2
    clear hpl
    go_enter Try.func22, Try.ntmps22
    go_wp2_with (first
      | ((with_reducible refine gate_dst (N := 2) rfl ?_); refine box_event ?hg (N := 2) ?hd (cs := #[.slice A0 R.length c0, .slice A1 E.length c1]) (t := 25) ?hr ?_; (case hd => rfl); (case hg => rfl); (case hr => first | (go_simp; done) | (go_simp; rfl)); intro gb hg w2 hbox hb; have HB := Aside0.mk hb; have BX := Aside0.mk hbox; have p0 : w2.cell? ⟨gb, 0, none⟩ = some (.slice A0 R.length c0) := (blk_cell hbox 0).trans rfl; have p1 : w2.cell? ⟨gb, 1, none⟩ = some (.slice A1 E.length c1) := (blk_cell hbox 1).trans rfl; clear hb hbox hg)
      | (go_at_call 28; refine (rf_IsPlan.calls 1000 A0 c0 R A1 c1 E _ _ (Kd.C_below HR0.out HB.out) HC0.out (Kd.C_below HR1.out HB.out) HC1.out HI.out).mono ?_; rintro e w3 ⟨rfl, hb3⟩; have HB3 := Aside0.mk (below_step HB.out hb3); have BX3 := Aside0.mk (blk_below BX.out hb3); clear p0 p1; have p0 : w3.cell? ⟨gb, 0, none⟩ = some (.slice A0 R.length c0) := (blk_cell BX3.out 0).trans rfl; have p1 : w3.cell? ⟨gb, 1, none⟩ = some (.slice A1 E.length c1) := (blk_cell BX3.out 1).trans rfl; clear hb3))
    go_ret2
    exact ⟨rfl, HB3.out⟩
  · rw [hpl] at HI
    have hK := (planOK_iff R E).1 hpl
    by_cases h200 : l.length > 200
    · have hb : decide ((l.length : Int) > 200) = true := by simp; omega
      unfold dr_Holds.f at h
      rw [if_pos hpl, if_pos (.inl (by omega))] at h
      injection h with h; injection h with e1 e2
      subst e1; subst e2
      clear hpl hK h200
      go_enter Try.func22, Try.ntmps22
      go_wp2_with (first
      | ((with_reducible refine gate_dst (N := 2) rfl ?_); refine box_event ?hg (N := 2) ?hd (cs := #[.slice A0 R.length c0, .slice A1 E.length c1]) (t := 25) ?hr ?_; (case hd => rfl); (case hg => rfl); (case hr => first | (go_simp; done) | (go_simp; rfl)); intro gb hg w2 hbox hb; have HB := Aside0.mk hb; have BX := Aside0.mk hbox; have p0 : w2.cell? ⟨gb, 0, none⟩ = some (.slice A0 R.length c0) := (blk_cell hbox 0).trans rfl; have p1 : w2.cell? ⟨gb, 1, none⟩ = some (.slice A1 E.length c1) := (blk_cell hbox 1).trans rfl; clear hb hbox hg)
      | (go_at_call 28; refine (rf_IsPlan.calls 1000 A0 c0 R A1 c1 E _ _ (Kd.C_below HR0.out HB.out) HC0.out (Kd.C_below HR1.out HB.out) HC1.out HI.out).mono ?_; rintro e w3 ⟨rfl, hb3⟩; have HB3 := Aside0.mk (below_step HB.out hb3); have BX3 := Aside0.mk (blk_below BX.out hb3); clear p0 p1; have p0 : w3.cell? ⟨gb, 0, none⟩ = some (.slice A0 R.length c0) := (blk_cell BX3.out 0).trans rfl; have p1 : w3.cell? ⟨gb, 1, none⟩ = some (.slice A1 E.length c1) := (blk_cell BX3.out 1).trans rfl; clear hb3))
      go_ret2
      exact ⟨rfl, HB3.out⟩
    · have hb : decide ((l.length : Int) > 200) = false := by simp; omega
      have hl2 : l.length ≤ 200 := by omega
      have HK := Aside0.mk hK
      have HPL := Aside0.mk hpl
      have HR2 := Aside0.mk hr2
      have HH := Aside0.mk h
      clear hpl hK h200 hr2 h
      go_enter Try.func22, Try.ntmps22
      go_wp2_with (first
      | ((with_reducible refine gate_dst (N := 2) rfl ?_); refine box_event ?hg (N := 2) ?hd (cs := #[.slice A0 R.length c0, .slice A1 E.length c1]) (t := 25) ?hr ?_; (case hd => rfl); (case hg => rfl); (case hr => first | (go_simp; done) | (go_simp; rfl)); intro gb hg w2 hbox hb; have HB := Aside0.mk hb; have BX := Aside0.mk hbox; have p0 : w2.cell? ⟨gb, 0, none⟩ = some (.slice A0 R.length c0) := (blk_cell hbox 0).trans rfl; have p1 : w2.cell? ⟨gb, 1, none⟩ = some (.slice A1 E.length c1) := (blk_cell hbox 1).trans rfl; clear hb hbox hg)
      | (go_at_call 28; refine (rf_IsPlan.calls 1000 A0 c0 R A1 c1 E _ _ (Kd.C_below HR0.out HB.out) HC0.out (Kd.C_below HR1.out HB.out) HC1.out HI.out).mono ?_; rintro e w3 ⟨rfl, hb3⟩; have HB3 := Aside0.mk (below_step HB.out hb3); have BX3 := Aside0.mk (blk_below BX.out hb3); clear p0 p1; have p0 : w3.cell? ⟨gb, 0, none⟩ = some (.slice A0 R.length c0) := (blk_cell BX3.out 0).trans rfl; have p1 : w3.cell? ⟨gb, 1, none⟩ = some (.slice A1 E.length c1) := (blk_cell BX3.out 1).trans rfl; clear hb3))
      clear p0 p1 BX HB
      go_loopw [6] (fun v6 wr => ∃ i : Nat, v6 = .int .i64 (i : Int) ∧ i ≤ l.length ∧ Aside0 ((∀ j : Nat, j < i → demOK E.length (rd_T56 l (j : Int)) = true) ∧ Below w3.heap.size w3 wr)) (fun v6 _ => l.length - (intOf v6).toNat)
      case atStart => exact ⟨0, rfl, by omega, ⟨fun j hj => by omega, Below.refl _ _⟩⟩
      case round =>
        obtain ⟨i, rfl, hi, HL⟩ := hrel
        have HB7 := Aside0.mk (below_step HB3.out HL.out.2)
        have BX7 := Aside0.mk (blk_below BX3.out HL.out.2)
        have p0 : wr.cell? ⟨gb, 0, none⟩ = some (.slice A0 R.length c0) := (blk_cell BX7.out 0).trans rfl
        have p1 : wr.cell? ⟨gb, 1, none⟩ = some (.slice A1 E.length c1) := (blk_cell BX7.out 1).trans rfl
        by_cases hlt : i < l.length
        · have hltb : decide ((i : Int) < (l.length : Int)) = true := by simpa using hlt
          have hii : (0 : Int) ≤ (i : Int) := by omega
          have hij : (i : Int) < (l.length : Int) := by omega
          obtain ⟨ad, eA, x0, x1, x2, x3⟩ := at_T56 (Kd.C_below HR2.out HB7.out) (i : Int) (by omega) (by omega)
          cases eA
          simp only [Int.toNat_natCast] at x0 x1 x2 x3
          have HDV := Aside0.mk (isDem_val R E (rd_T56 l (i : Int)))
          cases hdm : demOK E.length (rd_T56 l (i : Int))
          · have HDM := Aside0.mk hdm
            have hbd := holds_bad HPL.out i hlt hdm
            rw [HH.out] at hbd
            injection hbd with hbd; injection hbd with e1 e2
            subst e1; subst e2
            clear hdm
            go_wp2_with fail
            have ne0 := World.new_ne wr _ x0
            have hS0 : wr.cell? ⟨gb, 0, none⟩ = some (.slice A0 R.length c0) ∧ wr.cell? ⟨gb, 1, none⟩ = some (.slice A1 E.length c1) ∧ wr.cell? (ad.add (i * 4)) = some (.int .i64 (rd_T56 l (i : Int)).f0) ∧ wr.cell? ⟨(ad.add (i * 4)).block, (ad.add (i * 4)).off + 1, none⟩ = some (.int .i64 (rd_T56 l (i : Int)).f1) ∧ wr.cell? ⟨(ad.add (i * 4)).block, (ad.add (i * 4)).off + 2, none⟩ = some (.int .i64 (rd_T56 l (i : Int)).f2) ∧ wr.cell? ⟨(ad.add (i * 4)).block, (ad.add (i * 4)).off + 3, none⟩ = some (.int .i64 (rd_T56 l (i : Int)).f3) := ⟨p0, p1, x0, x1, x2, x3⟩
            go_region_held3 (fun w' => w'.cell? ⟨gb, 0, none⟩ = some (.slice A0 R.length c0) ∧ w'.cell? ⟨gb, 1, none⟩ = some (.slice A1 E.length c1) ∧ w'.cell? (ad.add (i * 4)) = some (.int .i64 (rd_T56 l (i : Int)).f0) ∧ w'.cell? ⟨(ad.add (i * 4)).block, (ad.add (i * 4)).off + 1, none⟩ = some (.int .i64 (rd_T56 l (i : Int)).f1) ∧ w'.cell? ⟨(ad.add (i * 4)).block, (ad.add (i * 4)).off + 2, none⟩ = some (.int .i64 (rd_T56 l (i : Int)).f2) ∧ w'.cell? ⟨(ad.add (i * 4)).block, (ad.add (i * 4)).off + 3, none⟩ = some (.int .i64 (rd_T56 l (i : Int)).f3)) ((first | exact hS0 | exact hS1)) ((first
              | (go_at_call 50; refine (rf_IsDemand.calls A0 c0 R A1 c1 E _ _ _ _ _ _ (Kd.C_below HR0.out (below_drew1 HB7.out)) HC0.out (Kd.C_below HR1.out (below_drew1 HB7.out)) HC1.out HDV.out).mono ?_; rintro e w8 ⟨rfl, hb8_⟩; rw [HDM.out]; have hb8 := Aside0.mk (below_step (below_drew1 (Below.refl _ wr)) hb8_); have hS1 : w8.cell? ⟨gb, 0, none⟩ = some (.slice A0 R.length c0) ∧ w8.cell? ⟨gb, 1, none⟩ = some (.slice A1 E.length c1) ∧ w8.cell? (ad.add (i * 4)) = some (.int .i64 (rd_T56 l (i : Int)).f0) ∧ w8.cell? ⟨(ad.add (i * 4)).block, (ad.add (i * 4)).off + 1, none⟩ = some (.int .i64 (rd_T56 l (i : Int)).f1) ∧ w8.cell? ⟨(ad.add (i * 4)).block, (ad.add (i * 4)).off + 2, none⟩ = some (.int .i64 (rd_T56 l (i : Int)).f2) ∧ w8.cell? ⟨(ad.add (i * 4)).block, (ad.add (i * 4)).off + 3, none⟩ = some (.int .i64 (rd_T56 l (i : Int)).f3) := ⟨bkeep_ hb8_ hS0.1, bkeep_ hb8_ hS0.2.1, bkeep_ hb8_ hS0.2.2.1, bkeep_ hb8_ hS0.2.2.2.1, bkeep_ hb8_ hS0.2.2.2.2.1, bkeep_ hb8_ hS0.2.2.2.2.2⟩; clear hb8_)))
            go_wp2_with fail
            go_ret2
            exact ⟨rfl, below_step HB7.out hb8.out⟩
          · have HDM := Aside0.mk hdm
            clear hdm
            go_wp2_with fail
            have ne0 := World.new_ne wr _ x0
            have hS0 : wr.cell? ⟨gb, 0, none⟩ = some (.slice A0 R.length c0) ∧ wr.cell? ⟨gb, 1, none⟩ = some (.slice A1 E.length c1) ∧ wr.cell? (ad.add (i * 4)) = some (.int .i64 (rd_T56 l (i : Int)).f0) ∧ wr.cell? ⟨(ad.add (i * 4)).block, (ad.add (i * 4)).off + 1, none⟩ = some (.int .i64 (rd_T56 l (i : Int)).f1) ∧ wr.cell? ⟨(ad.add (i * 4)).block, (ad.add (i * 4)).off + 2, none⟩ = some (.int .i64 (rd_T56 l (i : Int)).f2) ∧ wr.cell? ⟨(ad.add (i * 4)).block, (ad.add (i * 4)).off + 3, none⟩ = some (.int .i64 (rd_T56 l (i : Int)).f3) := ⟨p0, p1, x0, x1, x2, x3⟩
            go_region_held3 (fun w' => w'.cell? ⟨gb, 0, none⟩ = some (.slice A0 R.length c0) ∧ w'.cell? ⟨gb, 1, none⟩ = some (.slice A1 E.length c1) ∧ w'.cell? (ad.add (i * 4)) = some (.int .i64 (rd_T56 l (i : Int)).f0) ∧ w'.cell? ⟨(ad.add (i * 4)).block, (ad.add (i * 4)).off + 1, none⟩ = some (.int .i64 (rd_T56 l (i : Int)).f1) ∧ w'.cell? ⟨(ad.add (i * 4)).block, (ad.add (i * 4)).off + 2, none⟩ = some (.int .i64 (rd_T56 l (i : Int)).f2) ∧ w'.cell? ⟨(ad.add (i * 4)).block, (ad.add (i * 4)).off + 3, none⟩ = some (.int .i64 (rd_T56 l (i : Int)).f3)) ((first | exact hS0 | exact hS1)) ((first
              | (go_at_call 50; refine (rf_IsDemand.calls A0 c0 R A1 c1 E _ _ _ _ _ _ (Kd.C_below HR0.out (below_drew1 HB7.out)) HC0.out (Kd.C_below HR1.out (below_drew1 HB7.out)) HC1.out HDV.out).mono ?_; rintro e w8 ⟨rfl, hb8_⟩; rw [HDM.out]; have hb8 := Aside0.mk (below_step (below_drew1 (Below.refl _ wr)) hb8_); have hS1 : w8.cell? ⟨gb, 0, none⟩ = some (.slice A0 R.length c0) ∧ w8.cell? ⟨gb, 1, none⟩ = some (.slice A1 E.length c1) ∧ w8.cell? (ad.add (i * 4)) = some (.int .i64 (rd_T56 l (i : Int)).f0) ∧ w8.cell? ⟨(ad.add (i * 4)).block, (ad.add (i * 4)).off + 1, none⟩ = some (.int .i64 (rd_T56 l (i : Int)).f1) ∧ w8.cell? ⟨(ad.add (i * 4)).block, (ad.add (i * 4)).off + 2, none⟩ = some (.int .i64 (rd_T56 l (i : Int)).f2) ∧ w8.cell? ⟨(ad.add (i * 4)).block, (ad.add (i * 4)).off + 3, none⟩ = some (.int .i64 (rd_T56 l (i : Int)).f3) := ⟨bkeep_ hb8_ hS0.1, bkeep_ hb8_ hS0.2.1, bkeep_ hb8_ hS0.2.2.1, bkeep_ hb8_ hS0.2.2.2.1, bkeep_ hb8_ hS0.2.2.2.2.1, bkeep_ hb8_ hS0.2.2.2.2.2⟩; clear hb8_)))
            go_wp2_with fail
            go_roundw
            case rel => exact ⟨i + 1, by go_num, by omega, ⟨fun j hj => by
              by_cases e : j = i
              · subst e; exact HDM.out
              · exact HL.out.1 j (by omega), below_step HL.out.2 hb8.out⟩⟩
            case measure => simp [intOf]; omega
        · have hltb : decide ((i : Int) < (l.length : Int)) = false := by simpa using hlt
          have HDM : Aside0 (∀ j : Nat, j < l.length → demOK E.length (rd_T56 l (j : Int)) = true) := ⟨fun j hj => HL.out.1 j (by omega)⟩
          have hbd := holds_all HK.out h24 hl2 HDM.out
          rw [HH.out] at hbd
          injection hbd with hbd; injection hbd with e1 e2
          subst e2
          have HKV := Aside0.mk e1
          clear e1 hi HL HH
          obtain ⟨wo, hwo⟩ : ∃ wo : World, wo = wr := ⟨_, rfl⟩
          subst hwo
          go_wp2_with fail
          refine (rways_any R E A0 A1 c0 c1 _ (Kd.C_below HR0.out HB7.out) HC0.out (Kd.C_below HR1.out HB7.out) HC1.out HK.out h24).mono ?_; rintro e w4 ⟨v4, circ, rfl, hb4, hW⟩; have HB4 := Aside0.mk (below_step HB7.out hb4); have BX4 := Aside0.mk (blk_below BX7.out hb4); clear hb4 p0 p1
          rcases hW with ⟨rfl, rfl, hN⟩ | ⟨rfl, g, cg, m, rfl, hM, hF⟩
          · have hk1 : k = -1 := by
              rw [HKV.out]
              exact idxOf_no _ _ z56 (fun j hj => (breach_ways HK.out h24 _ (HDM.out j hj)).1 hN)
            subst hk1
            clear hN HKV
            go_wp2_with fail
            go_loopw [9] (fun v9 wr => ∃ j : Nat, v9 = .int .i64 (j : Int) ∧ Aside0 (Below w4.heap.size w4 wr)) (fun v9 _ => 0)
            case atStart => exact ⟨0, rfl, ⟨Below.refl _ _⟩⟩
            case round =>
              obtain ⟨j, rfl, HJ⟩ := hrel
              by_cases hjl : j < l.length <;> (
                go_wp2_with fail
                go_ret2
                exact ⟨rfl, below_step HB4.out HJ.out⟩)
          · have HBW := Aside0.mk (fun j hj => (breach_ways HK.out h24 _ (HDM.out j hj)).2 _ hF)
            have HM := Aside0.mk hM
            clear hM hF
            go_wp2_with fail
            go_loopw [9] (fun v9 wr => ∃ j : Nat, v9 = .int .i64 (j : Int) ∧ j ≤ l.length ∧ Aside0 ((∀ t : Nat, t < j → breachB R E (rd_T56 l (t : Int)) = false) ∧ Below w4.heap.size w4 wr)) (fun v9 _ => l.length - (intOf v9).toNat)
            case atStart => exact ⟨0, rfl, by omega, ⟨fun t ht => by omega, Below.refl _ _⟩⟩
            case round =>
              obtain ⟨j, rfl, hj, HJ⟩ := hrel
              by_cases hlt : j < l.length
              · have hjb : decide ((j : Int) < (l.length : Int)) = true := by simpa using hlt
                have hj0 : (0 : Int) ≤ (j : Int) := by omega
                have hj1 : (j : Int) < (l.length : Int) := by omega
                obtain ⟨ad, eA, x0, x1, x2, x3⟩ := at_T56 (Kd.C_below HR2.out (below_step HB4.out HJ.out.2)) (j : Int) (by omega) (by omega)
                cases eA
                simp only [Int.toNat_natCast] at x0 x1 x2 x3
                obtain ⟨d0, d1, d2, d3⟩ := (demOK_iff _ _).1 (HDM.out j hlt)
                have HBJ := Aside0.mk (HBW.out j hlt)
                have HYES : Aside0 (breachB R E (rd_T56 l (j : Int)) = true → k = (j : Int)) := ⟨fun hb => by rw [HKV.out]; exact idxOf_at _ _ z56 j hlt hb (fun t ht => HJ.out.1 t ht)⟩
                have HNO : Aside0 (breachB R E (rd_T56 l (j : Int)) = false → ∀ t : Nat, t < j + 1 → breachB R E (rd_T56 l (t : Int)) = false) := ⟨fun hb t ht => by
                  by_cases e : t = j
                  · subst e; exact hb
                  · exact HJ.out.1 t (by omega)⟩
                generalize hdd : rd_T56 l (j : Int) = d at x0 x1 x2 x3 d0 d1 d2 d3 HBJ HYES HNO
                clear hdd
                obtain ⟨f0, f1, f2, f3⟩ := d
                simp only at x0 x1 x2 x3 d0 d1 d2 d3
                have HBJ' : Aside0 (breachB R E ⟨f0, f1, f2, f3⟩ = true ↔ (mv m f1 f0 > -f2 ∨ (f3 ≠ -1 ∧ mv m f0 f1 > f3))) := HBJ
                obtain ⟨a, rfl⟩ : ∃ x : Nat, f0 = x := ⟨f0.toNat, by omega⟩
                obtain ⟨b, rfl⟩ : ∃ x : Nat, f1 = x := ⟨f1.toNat, by omega⟩
                have han : a < E.length := by omega
                have hbn : b < E.length := by omega
                have HW2 : Aside0 (wrap64 (-f2) = -f2) := ⟨wrap64_id0 _ (by omega) (by omega)⟩
                obtain ⟨d00, d01⟩ := d0
                obtain ⟨d10, d11⟩ := d1
                obtain ⟨bi, di, bk, dk, k0, k1, k2, k3, k4, _, _⟩ := (HM.out.below HJ.out.2).three b a a hbn han han
                obtain ⟨ba, da, y0, _, yf⟩ := (HM.out.below HJ.out.2).at a han
                obtain ⟨y1, _, _⟩ := yf b hbn
                clear d2 d3 HBJ yf k1 k3 k4
                generalize mv m (b : Int) (a : Int) = x at k2 HBJ'
                generalize mv m (a : Int) (b : Int) = y at y1 HBJ'
                by_cases g1 : x > -f2
                · have g1b : decide (x > wrap64 (-f2)) = true := by rw [HW2.out]; simpa using g1
                  have hkj := HYES.out (HBJ'.out.2 (.inl g1))
                  have HKJ := Aside0.mk hkj
                  clear hkj g1
                  go_wp2_with fail
                  go_quiet (fail)
                  go_wp2_with fail
                  go_ret2
                  exact ⟨by rw [HKJ.out]; rfl, below_step HB4.out (below_step HJ.out.2 (pw_below_drewN (Below.refl _ wr) nq))⟩
                · have g1b : decide (x > wrap64 (-f2)) = false := by rw [HW2.out]; simpa using g1
                  by_cases g2 : f3 = -1
                  · have g2b : (f3 != -1) = false := by simpa using g2
                    have HNJ := Aside0.mk (HNO.out (by
                      cases hbv : breachB R E ⟨a, b, f2, f3⟩ with
                      | false => rfl
                      | true => rcases HBJ'.out.1 hbv with h | h; exact absurd h g1; exact absurd g2 h.1))
                    clear g1 g2
                    go_wp2_with fail
                    go_quiet (fail)
                    go_wp2_with fail
                    go_roundw
                    case rel => exact ⟨j + 1, by go_num, by omega, ⟨HNJ.out, below_step HJ.out.2 (pw_below_drewN (Below.refl _ wr) nq)⟩⟩
                    case measure => simp [intOf]; omega
                  · have g2b : (f3 != -1) = true := by simpa using g2
                    by_cases g3 : y > f3
                    · have g3b : decide (y > f3) = true := by simpa using g3
                      have hkj := HYES.out (HBJ'.out.2 (.inr ⟨g2, g3⟩))
                      have HKJ := Aside0.mk hkj
                      clear hkj g1 g2 g3
                      go_wp2_with fail
                      go_quiet (fail)
                      go_wp2_with fail
                      go_ret2
                      exact ⟨by rw [HKJ.out]; rfl, below_step HB4.out (below_step HJ.out.2 (pw_below_drewN (Below.refl _ wr) nq))⟩
                    · have g3b : decide (y > f3) = false := by simpa using g3
                      have HNJ := Aside0.mk (HNO.out (by
                        cases hbv : breachB R E ⟨a, b, f2, f3⟩ with
                        | false => rfl
                        | true => rcases HBJ'.out.1 hbv with h | h; exact absurd h g1; exact absurd h.2 g3))
                      clear g1 g2 g3
                      go_wp2_with fail
                      go_quiet (fail)
                      go_wp2_with fail
                      go_roundw
                      case rel => exact ⟨j + 1, by go_num, by omega, ⟨HNJ.out, below_step HJ.out.2 (pw_below_drewN (Below.refl _ wr) nq)⟩⟩
                      case measure => simp [intOf]; omega
              · have hjb : decide ((j : Int) < (l.length : Int)) = false := by simpa using hlt
                have hk1 : k = -1 := by
                  rw [HKV.out]
                  exact idxOf_no _ _ z56 (fun t ht => HJ.out.1 t (by omega))
                subst hk1
                clear HKV
                go_wp2_with fail
                go_ret2
                exact ⟨rfl, below_step HB4.out HJ.out.2⟩
end Go.Proofs.Ytlfopemghafboaa.D
