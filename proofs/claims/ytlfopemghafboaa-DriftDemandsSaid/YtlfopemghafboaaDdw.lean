/- The contract of the law DriftDemands, by a walk through its code. No condition beyond each theorem's own hypotheses. -/
import Derived.Test.YtlfopemghafboaaDpd
import Derived.Test.YtlfopemghafboaaDe3
import Derived.Test.YtlfopemghafboaaDx6
import Derived.Test.YtlfopemghafboaaDsane
namespace Go.Proofs.Ytlfopemghafboaa.D
open Go.RowKit Go.Proofs.YtlfopemghafboaaW.PrintWords Go.Proofs.YtlfopemghafboaaW.PrintLast Go.Proofs.YtlfopemghafboaaW.PrintMore
set_option linter.unusedVariables false
set_option linter.unusedSimpArgs false
theorem isDemand_val (R : List S42) (E : List S80) (d : S56) : rf_IsDemand.f R E d.f0 d.f1 d.f2 d.f3 = some (demOK E.length d) := by
  have h := demOK_iff E.length d
  have ht : (demOK E.length d = true) ↔ _ := h
  unfold rf_IsDemand.f
  by_cases c : demOK E.length d = true
  · have := h.1 c
    rw [c, if_pos (by omega), if_pos (by omega), if_pos (by omega), if_pos (by omega), if_pos (by omega), if_pos (by omega)]
    by_cases c3 : d.f3 = -1
    · rw [if_pos c3]
    · rw [if_neg c3, if_pos (by omega), decide_eq_true (by omega)]
  · have hn : ¬ ((0 ≤ d.f0 ∧ d.f0 < E.length) ∧ (0 ≤ d.f1 ∧ d.f1 < E.length) ∧ (0 ≤ d.f2 ∧ d.f2 ≤ 1000000) ∧ (d.f3 = -1 ∨ (d.f2 ≤ d.f3 ∧ d.f3 ≤ 1000000))) := fun hh => c (h.2 hh)
    have cf : demOK E.length d = false := by simpa using c
    rw [cf]
    split
    · split
      · split
        · split
          · split
            · split
              · split
                · omega
                · split
                  · rw [decide_eq_false (by omega)]
                  · rfl
              · rfl
            · rfl
          · rfl
        · rfl
      · rfl
    · rfl
theorem bkeep {w W : World} {p : Addr} {v : Value} (h : Below w.drew.heap.size w.drew W) (hc : w.cell? p = some v) : W.cell? p = some v := (h.cell (World.block_lt_of_cell? w _ hc)).trans hc
set_option maxHeartbeats 3200000 in
set_option maxRecDepth 100000 in
theorem demands_early (R : List S42) (E : List S80) (A0 A1 A A2 : Option Addr) (c0 c1 c c2 : Nat) (l : List S56) (ch : List Int) (fr tt : Int) (w : World) (hr0 : Kd.C k42 w A0 R.length R) (hc0 : R.length ≤ c0) (hr1 : Kd.C k80 w A1 E.length E) (hc1 : E.length ≤ c1)
    (h : decide ((E.length : Int) > 16) = true ∨ (decide ((E.length : Int) > 16) = false ∧ (planOK R E = false ∨ (planOK R E = true ∧ decide ((l.length : Int) > 8) = true)))) :
    Calls Try.prog 10 #[.agg #[.slice A0 R.length c0, .slice A1 E.length c1], .slice A l.length c, .slice A2 ch.length c2, .int .i64 fr, .int .i64 tt] w fun e w' => e = .returned (.bool true) ∧ Below w.heap.size w w' := by
  have HR0 := Aside0.mk hr0
  have HR1 := Aside0.mk hr1
  have HC0 := Aside0.mk hc0
  have HC1 := Aside0.mk hc1
  have HI : Aside0 (rf_IsPlan.f 1000 R E = some (planOK R E)) := ⟨isPlan_val R E 1000 (by omega)⟩
  clear hr0 hr1 hc0 hc1
  rcases h with d1 | ⟨d1, d2 | ⟨d2, d3⟩⟩ <;> (
    (try rw [d2] at HI)
    go_enter Try.func10, Try.ntmps10
    go_wp2_with (first
        | ((with_reducible refine gate_dst (N := 5) rfl ?_); refine box_event ?hg (N := 5) ?hd (cs := #[.slice A0 R.length c0, .slice A1 E.length c1]) (t := 25) ?hr ?_; (case hd => rfl); (case hg => rfl); (case hr => first | (go_simp; done) | (go_simp; rfl)); intro gb hg w2 hbox hb; have HB := Aside0.mk hb; have BX := Aside0.mk hbox; clear hb hbox hg)
        | (go_at_call 15; refine (lw_sane.calls true _ rfl).mono ?_; rintro e w4 ⟨rfl, hb4⟩; have HB4 := Aside0.mk (below_step HB.out hb4); have BX4 := Aside0.mk (blk_below BX.out hb4); have p0 : w4.cell? ⟨gb, 0, none⟩ = some (.slice A0 R.length c0) := (blk_cell BX4.out 0).trans rfl; have p1 : w4.cell? ⟨gb, 1, none⟩ = some (.slice A1 E.length c1) := (blk_cell BX4.out 1).trans rfl; have HBE := Aside0.mk HB4.out; clear hb4)
        | (go_at_call 28; refine (rf_IsPlan.calls 1000 A0 c0 R A1 c1 E _ _ (Kd.C_below HR0.out HB4.out) HC0.out (Kd.C_below HR1.out HB4.out) HC1.out HI.out).mono ?_; rintro e w6 ⟨rfl, hb6⟩; have HB6 := Aside0.mk (below_step HB4.out hb6); have BX6 := Aside0.mk (blk_below BX4.out hb6); clear p0 p1; have p0 : w6.cell? ⟨gb, 0, none⟩ = some (.slice A0 R.length c0) := (blk_cell BX6.out 0).trans rfl; have p1 : w6.cell? ⟨gb, 1, none⟩ = some (.slice A1 E.length c1) := (blk_cell BX6.out 1).trans rfl; clear HBE; have HBE := Aside0.mk HB6.out; clear hb6))
    go_ret
    exact ⟨rfl, HBE.out⟩)
/-- What the law keeps in memory behind its calls: the plan's box, the two rows of times, and the row of these. -/
structure DMem (w0 W : World) (gb gl : Nat) (A0 A1 : Option Addr) (n0 n1 c0 c1 : Nat) (v14 v16 : Value) (ts fs : List Int) : Prop where
  box : W.heap[gb]? = some (.cells #[.slice A0 n0 c0, .slice A1 n1 c1] 25 (0, 0))
  row : W.heap[gl]? = some (.cells #[v14, v16] 28 (0, 0))
  t : Kd.R (Kd.int .i64) 3 W w0.heap.size (fun _ => True) v14 ts
  f : Kd.R (Kd.int .i64) 3 W w0.heap.size (fun _ => True) v16 fs
  bel : Below w0.heap.size w0 W
theorem DMem.below {w0 W W1 : World} {gb gl : Nat} {A0 A1 : Option Addr} {n0 n1 c0 c1 : Nat} {v14 v16 : Value} {ts fs : List Int} (h : DMem w0 W gb gl A0 A1 n0 n1 c0 c1 v14 v16 ts fs) (hb : Below W.heap.size W W1) : DMem w0 W1 gb gl A0 A1 n0 n1 c0 c1 v14 v16 ts fs :=
  ⟨blk_below h.box hb, blk_below h.row hb, Kd.R_below h.t hb, Kd.R_below h.f hb, below_step h.bel hb⟩
/-- One of the two rows, as the law takes it out. -/
theorem DMem.pick {w0 W : World} {gb gl : Nat} {A0 A1 : Option Addr} {n0 n1 c0 c1 : Nat} {v14 v16 : Value} {ts fs : List Int} (h : DMem w0 W gb gl A0 A1 n0 n1 c0 c1 v14 v16 ts fs) (k : Nat) (hk : k < 2) :
    ∃ X : List Int, ∃ B : Option Addr, ∃ d : Nat, W.cell? ⟨gl, k, none⟩ = some (.slice B X.length d) ∧ (X = ts ∨ X = fs) ∧ ∀ W1, Below W.heap.size W W1 → Kd.C (Kd.int .i64) W1 B X.length X ∧ X.length ≤ d := by
  obtain ⟨B, d, e, hd, hC⟩ := Kd.R_reads h.t
  obtain ⟨B', d', e', hd', hC'⟩ := Kd.R_reads h.f
  subst e; subst e'
  rcases (show k = 0 ∨ k = 1 by omega) with rfl | rfl
  · exact ⟨ts, B, d, (blk_cell h.row 0).trans rfl, .inl rfl, fun W1 hb => ⟨Kd.C_below hC hb, hd⟩⟩
  · exact ⟨fs, B', d', (blk_cell h.row 1).trans rfl, .inr rfl, fun W1 hb => ⟨Kd.C_below hC' hb, hd'⟩⟩
set_option maxHeartbeats 6400000 in
set_option maxRecDepth 100000 in
theorem demands_main (R : List S42) (E : List S80) (A0 A1 A A2 : Option Addr) (c0 c1 c c2 : Nat) (l : List S56) (ch : List Int) (fr tt : Int) (w : World) (hr0 : Kd.C k42 w A0 R.length R) (hc0 : R.length ≤ c0) (hr1 : Kd.C k80 w A1 E.length E) (hc1 : E.length ≤ c1) (hr2 : Kd.C k56 w A l.length l) (hc2 : l.length ≤ c) (hr3 : Kd.C (Kd.int .i64) w A2 ch.length ch) (hc3 : ch.length ≤ c2)
    (hK : PlanOK R E) (d1 : decide ((E.length : Int) > 16) = false) (d3 : decide ((l.length : Int) > 8) = false) :
    Calls Try.prog 10 #[.agg #[.slice A0 R.length c0, .slice A1 E.length c1], .slice A l.length c, .slice A2 ch.length c2, .int .i64 fr, .int .i64 tt] w fun e w' => e = .returned (.bool true) ∧ Below w.heap.size w w' := by
  have HR0 := Aside0.mk hr0
  have HR1 := Aside0.mk hr1
  have HC0 := Aside0.mk hc0
  have HC1 := Aside0.mk hc1
  have HR2 := Aside0.mk hr2
  have HC2 := Aside0.mk hc2
  have HR3 := Aside0.mk hr3
  have HC3 := Aside0.mk hc3
  have HI : Aside0 (rf_IsPlan.f 1000 R E = some true) := ⟨by rw [isPlan_val R E 1000 (by omega), (planOK_iff R E).2 hK]⟩
  have H24 : Aside0 (E.length ≤ 24 ∧ E.length ≤ 16) := ⟨by simp at d1; omega⟩
  have h8 : l.length ≤ 8 := by simp at d3; omega
  have HK := Aside0.mk hK
  clear hr0 hr1 hc0 hc1 hr2 hc2 hr3 hc3 hK
  go_enter Try.func10, Try.ntmps10
  go_wp2_with (first
        | ((with_reducible refine gate_dst (N := 5) rfl ?_); refine box_event ?hg (N := 5) ?hd (cs := #[.slice A0 R.length c0, .slice A1 E.length c1]) (t := 25) ?hr ?_; (case hd => rfl); (case hg => rfl); (case hr => first | (go_simp; done) | (go_simp; rfl)); intro gb hg w2 hbox hb; have HB := Aside0.mk hb; have BX := Aside0.mk hbox; clear hb hbox hg)
        | (go_at_call 15; refine (lw_sane.calls true _ rfl).mono ?_; rintro e w4 ⟨rfl, hb4⟩; have HB4 := Aside0.mk (below_step HB.out hb4); have BX4 := Aside0.mk (blk_below BX.out hb4); have p0 : w4.cell? ⟨gb, 0, none⟩ = some (.slice A0 R.length c0) := (blk_cell BX4.out 0).trans rfl; have p1 : w4.cell? ⟨gb, 1, none⟩ = some (.slice A1 E.length c1) := (blk_cell BX4.out 1).trans rfl; have HBE := Aside0.mk HB4.out; clear hb4)
        | (go_at_call 28; refine (rf_IsPlan.calls 1000 A0 c0 R A1 c1 E _ _ (Kd.C_below HR0.out HB4.out) HC0.out (Kd.C_below HR1.out HB4.out) HC1.out HI.out).mono ?_; rintro e w6 ⟨rfl, hb6⟩; have HB6 := Aside0.mk (below_step HB4.out hb6); have BX6 := Aside0.mk (blk_below BX4.out hb6); clear p0 p1; have p0 : w6.cell? ⟨gb, 0, none⟩ = some (.slice A0 R.length c0) := (blk_cell BX6.out 0).trans rfl; have p1 : w6.cell? ⟨gb, 1, none⟩ = some (.slice A1 E.length c1) := (blk_cell BX6.out 1).trans rfl; clear HBE; have HBE := Aside0.mk HB6.out; clear hb6))
  have HQ := Aside0.mk (below_step HB6.out (Below.refl _ w6))
  clear p0 p1 HBE HB HB4 BX BX4
  go_loopw [11] (fun v11 wr => ∃ i : Nat, v11 = .int .i64 (i : Int) ∧ i ≤ l.length ∧ Aside0 ((∀ j : Nat, j < i → demOK E.length (rd_T56 l (j : Int)) = true) ∧ Below w6.heap.size w6 wr)) (fun v11 _ => l.length - (intOf v11).toNat)
  case atStart => exact ⟨0, rfl, by omega, ⟨fun j hj => by omega, Below.refl _ _⟩⟩
  case round =>
    obtain ⟨i, rfl, hi, HL⟩ := hrel
    have HB7 := Aside0.mk (below_step HB6.out HL.out.2)
    have BX7 := Aside0.mk (blk_below BX6.out HL.out.2)
    by_cases hlt : i < l.length
    · have hltb : decide ((i : Int) < (l.length : Int)) = true := by simpa using hlt
      have hii : (0 : Int) ≤ (i : Int) := by omega
      have hij : (i : Int) < (l.length : Int) := by omega
      obtain ⟨ad, eA, x0, x1, x2, x3⟩ := at_T56 (Kd.C_below HR2.out HB7.out) (i : Int) (by omega) (by omega)
      cases eA
      simp only [Int.toNat_natCast] at x0 x1 x2 x3
      have p0 : wr.cell? ⟨gb, 0, none⟩ = some (.slice A0 R.length c0) := (blk_cell BX7.out 0).trans rfl
      have p1 : wr.cell? ⟨gb, 1, none⟩ = some (.slice A1 E.length c1) := (blk_cell BX7.out 1).trans rfl
      have HDV := Aside0.mk (isDemand_val R E (rd_T56 l (i : Int)))
      cases hdm : demOK E.length (rd_T56 l (i : Int))
      · have HDM := Aside0.mk hdm
        clear hdm
        go_wp2_with fail
        have ne0 := World.new_ne wr _ x0
        have hS0 : wr.cell? ⟨gb, 0, none⟩ = some (.slice A0 R.length c0) ∧ wr.cell? ⟨gb, 1, none⟩ = some (.slice A1 E.length c1) ∧ wr.cell? (ad.add (i * 4)) = some (.int .i64 (rd_T56 l (i : Int)).f0) ∧ wr.cell? ⟨(ad.add (i * 4)).block, (ad.add (i * 4)).off + 1, none⟩ = some (.int .i64 (rd_T56 l (i : Int)).f1) ∧ wr.cell? ⟨(ad.add (i * 4)).block, (ad.add (i * 4)).off + 2, none⟩ = some (.int .i64 (rd_T56 l (i : Int)).f2) ∧ wr.cell? ⟨(ad.add (i * 4)).block, (ad.add (i * 4)).off + 3, none⟩ = some (.int .i64 (rd_T56 l (i : Int)).f3) := ⟨p0, p1, x0, x1, x2, x3⟩
        go_region_held3 (fun w' => w'.cell? ⟨gb, 0, none⟩ = some (.slice A0 R.length c0) ∧ w'.cell? ⟨gb, 1, none⟩ = some (.slice A1 E.length c1) ∧ w'.cell? (ad.add (i * 4)) = some (.int .i64 (rd_T56 l (i : Int)).f0) ∧ w'.cell? ⟨(ad.add (i * 4)).block, (ad.add (i * 4)).off + 1, none⟩ = some (.int .i64 (rd_T56 l (i : Int)).f1) ∧ w'.cell? ⟨(ad.add (i * 4)).block, (ad.add (i * 4)).off + 2, none⟩ = some (.int .i64 (rd_T56 l (i : Int)).f2) ∧ w'.cell? ⟨(ad.add (i * 4)).block, (ad.add (i * 4)).off + 3, none⟩ = some (.int .i64 (rd_T56 l (i : Int)).f3)) ((first | exact hS0 | exact hS1)) ((first
          | (go_at_call 50; refine (rf_IsDemand.calls A0 c0 R A1 c1 E _ _ _ _ _ _ (Kd.C_below HR0.out (below_drew1 HB7.out)) HC0.out (Kd.C_below HR1.out (below_drew1 HB7.out)) HC1.out HDV.out).mono ?_; rintro e w8 ⟨rfl, hb8_⟩; rw [HDM.out]; have hb8 := Aside0.mk (below_step (below_drew1 (Below.refl _ wr)) hb8_); have hS1 : w8.cell? ⟨gb, 0, none⟩ = some (.slice A0 R.length c0) ∧ w8.cell? ⟨gb, 1, none⟩ = some (.slice A1 E.length c1) ∧ w8.cell? (ad.add (i * 4)) = some (.int .i64 (rd_T56 l (i : Int)).f0) ∧ w8.cell? ⟨(ad.add (i * 4)).block, (ad.add (i * 4)).off + 1, none⟩ = some (.int .i64 (rd_T56 l (i : Int)).f1) ∧ w8.cell? ⟨(ad.add (i * 4)).block, (ad.add (i * 4)).off + 2, none⟩ = some (.int .i64 (rd_T56 l (i : Int)).f2) ∧ w8.cell? ⟨(ad.add (i * 4)).block, (ad.add (i * 4)).off + 3, none⟩ = some (.int .i64 (rd_T56 l (i : Int)).f3) := ⟨bkeep hb8_ hS0.1, bkeep hb8_ hS0.2.1, bkeep hb8_ hS0.2.2.1, bkeep hb8_ hS0.2.2.2.1, bkeep hb8_ hS0.2.2.2.2.1, bkeep hb8_ hS0.2.2.2.2.2⟩; clear hb8_)))
        go_wp2_with fail
        go_ret
        exact ⟨rfl, below_step HB7.out hb8.out⟩
      · have HDM := Aside0.mk hdm
        clear hdm
        go_wp2_with fail
        have ne0 := World.new_ne wr _ x0
        have hS0 : wr.cell? ⟨gb, 0, none⟩ = some (.slice A0 R.length c0) ∧ wr.cell? ⟨gb, 1, none⟩ = some (.slice A1 E.length c1) ∧ wr.cell? (ad.add (i * 4)) = some (.int .i64 (rd_T56 l (i : Int)).f0) ∧ wr.cell? ⟨(ad.add (i * 4)).block, (ad.add (i * 4)).off + 1, none⟩ = some (.int .i64 (rd_T56 l (i : Int)).f1) ∧ wr.cell? ⟨(ad.add (i * 4)).block, (ad.add (i * 4)).off + 2, none⟩ = some (.int .i64 (rd_T56 l (i : Int)).f2) ∧ wr.cell? ⟨(ad.add (i * 4)).block, (ad.add (i * 4)).off + 3, none⟩ = some (.int .i64 (rd_T56 l (i : Int)).f3) := ⟨p0, p1, x0, x1, x2, x3⟩
        go_region_held3 (fun w' => w'.cell? ⟨gb, 0, none⟩ = some (.slice A0 R.length c0) ∧ w'.cell? ⟨gb, 1, none⟩ = some (.slice A1 E.length c1) ∧ w'.cell? (ad.add (i * 4)) = some (.int .i64 (rd_T56 l (i : Int)).f0) ∧ w'.cell? ⟨(ad.add (i * 4)).block, (ad.add (i * 4)).off + 1, none⟩ = some (.int .i64 (rd_T56 l (i : Int)).f1) ∧ w'.cell? ⟨(ad.add (i * 4)).block, (ad.add (i * 4)).off + 2, none⟩ = some (.int .i64 (rd_T56 l (i : Int)).f2) ∧ w'.cell? ⟨(ad.add (i * 4)).block, (ad.add (i * 4)).off + 3, none⟩ = some (.int .i64 (rd_T56 l (i : Int)).f3)) ((first | exact hS0 | exact hS1)) ((first
          | (go_at_call 50; refine (rf_IsDemand.calls A0 c0 R A1 c1 E _ _ _ _ _ _ (Kd.C_below HR0.out (below_drew1 HB7.out)) HC0.out (Kd.C_below HR1.out (below_drew1 HB7.out)) HC1.out HDV.out).mono ?_; rintro e w8 ⟨rfl, hb8_⟩; rw [HDM.out]; have hb8 := Aside0.mk (below_step (below_drew1 (Below.refl _ wr)) hb8_); have hS1 : w8.cell? ⟨gb, 0, none⟩ = some (.slice A0 R.length c0) ∧ w8.cell? ⟨gb, 1, none⟩ = some (.slice A1 E.length c1) ∧ w8.cell? (ad.add (i * 4)) = some (.int .i64 (rd_T56 l (i : Int)).f0) ∧ w8.cell? ⟨(ad.add (i * 4)).block, (ad.add (i * 4)).off + 1, none⟩ = some (.int .i64 (rd_T56 l (i : Int)).f1) ∧ w8.cell? ⟨(ad.add (i * 4)).block, (ad.add (i * 4)).off + 2, none⟩ = some (.int .i64 (rd_T56 l (i : Int)).f2) ∧ w8.cell? ⟨(ad.add (i * 4)).block, (ad.add (i * 4)).off + 3, none⟩ = some (.int .i64 (rd_T56 l (i : Int)).f3) := ⟨bkeep hb8_ hS0.1, bkeep hb8_ hS0.2.1, bkeep hb8_ hS0.2.2.1, bkeep hb8_ hS0.2.2.2.1, bkeep hb8_ hS0.2.2.2.2.1, bkeep hb8_ hS0.2.2.2.2.2⟩; clear hb8_)))
        go_wp2_with fail
        go_roundw
        case rel => exact ⟨i + 1, by go_num, by omega, ⟨fun j hj => by
          by_cases e : j = i
          · subst e; exact HDM.out
          · exact HL.out.1 j (by omega), below_step HL.out.2 hb8.out⟩⟩
        case measure => simp [intOf]; omega
    · have hltb : decide ((i : Int) < (l.length : Int)) = false := by simpa using hlt
      obtain ⟨at_, ts, ran, fs, som, hh, hat, hrun, hear, hrs, hsf, hkt, hkf⟩ := demands_calls HK.out H24.out.1 l h8 (fun d hd => by
        obtain ⟨j, hj, e⟩ := List.getElem_of_mem hd
        have := HL.out.1 j (by omega)
        rw [show rd_T56 l (j : Int) = l[j] by simp [rd_T56, List.getD_eq_getElem?_getD, List.getElem?_eq_getElem hj], e] at this
        exact this) ch
      have HH := Aside0.mk hh
      have HRUN := Aside0.mk hrun
      have HEAR := Aside0.mk hear
      have HRS := Aside0.mk hrs
      have HSF := Aside0.mk hsf
      have HAT := Aside0.mk hat
      have HKP : Aside0 (∀ X, X = ts ∨ X = fs → RowKeeps E l at_ X) := ⟨fun X hX => by rcases hX with e | e <;> subst e <;> assumption⟩
      have g1 : decide (at_ < -1) = false := by simp; omega
      have g2 : decide (at_ ≥ (l.length : Int)) = false := by simp; omega
      have HG : Aside0 (ran = false ∨ (ran = true ∧ som = true)) := ⟨by cases hr_ : ran; exact .inl rfl; exact .inr ⟨rfl, (hrs hr_).1⟩⟩
      clear hh hrun hear hrs hsf hkt hkf hat hi
      have p0 : wr.cell? ⟨gb, 0, none⟩ = some (.slice A0 R.length c0) := (blk_cell BX7.out 0).trans rfl
      have p1 : wr.cell? ⟨gb, 1, none⟩ = some (.slice A1 E.length c1) := (blk_cell BX7.out 1).trans rfl
      rcases HG.out with rfl | ⟨rfl, rfl⟩
      · go_wp2_with (first
        | (go_at_call 21; refine (dr_Holds.calls A0 c0 R A1 c1 E A c l at_ 0 _ (Kd.C_below HR0.out HB7.out) HC0.out (Kd.C_below HR1.out HB7.out) HC1.out (Kd.C_below HR2.out HB7.out) HC2.out HH.out).mono ?_; rintro e w8 ⟨rfl, hb8⟩; have HB8 := Aside0.mk (below_step HB7.out hb8); have BX8 := Aside0.mk (blk_below BX7.out hb8); clear p0 p1; have p0 : w8.cell? ⟨gb, 0, none⟩ = some (.slice A0 R.length c0) := (blk_cell BX8.out 0).trans rfl; have p1 : w8.cell? ⟨gb, 1, none⟩ = some (.slice A1 E.length c1) := (blk_cell BX8.out 1).trans rfl; clear hb8)
        | (go_at_call 49; refine (dr_Run.calls A0 c0 R A1 c1 E A2 c2 ch ts _ 0 _ (Kd.C_below HR0.out HB8.out) HC0.out (Kd.C_below HR1.out HB8.out) HC1.out (Kd.C_below HR3.out HB8.out) HC3.out HRUN.out).mono ?_; rintro e w9 ⟨v14, rfl, hT9, hb9⟩; obtain ⟨B14, d14, e14, _, _⟩ := Kd.R_reads hT9; subst e14; have HT9 := Aside0.mk hT9; have HB9 := Aside0.mk (below_step HB8.out hb9); have BX9 := Aside0.mk (blk_below BX8.out hb9); clear p0 p1; have p0 : w9.cell? ⟨gb, 0, none⟩ = some (.slice A0 R.length c0) := (blk_cell BX9.out 0).trans rfl; have p1 : w9.cell? ⟨gb, 1, none⟩ = some (.slice A1 E.length c1) := (blk_cell BX9.out 1).trans rfl; clear hb9 hT9)
        | (go_at_call 29; refine (dr_Earliest.calls A0 c0 R A1 c1 E fs _ 0 _ (Kd.C_below HR0.out HB9.out) HC0.out (Kd.C_below HR1.out HB9.out) HC1.out HEAR.out).mono ?_; rintro e wA ⟨v16, rfl, hTA, hbA⟩; obtain ⟨B16, d16, e16, _, _⟩ := Kd.R_reads hTA; subst e16; have HTA := Aside0.mk hTA; have HBA := Aside0.mk (below_step HB9.out hbA); have BXA := Aside0.mk (blk_below BX9.out hbA); have HT10 := Aside0.mk (Kd.R_below HT9.out hbA); clear p0 p1 hbA hTA))
        have DM : Aside0 (DMem w (wA.alloc (.cells #[.slice B14 ts.length d14, .slice B16 fs.length d16] 28 (0, 0))) gb wA.heap.size A0 A1 R.length E.length c0 c1 (.slice B14 ts.length d14) (.slice B16 fs.length d16) ts fs) := ⟨⟨blk_below BXA.out (below_alloc (Below.refl _ _) _), blk_new _ _, Kd.R_below (Kd.R_mono (Kd.R_lower HT10.out HB8.out.size) (fun _ _ => trivial)) (below_alloc (Below.refl _ _) _), Kd.R_below (Kd.R_mono (Kd.R_lower HTA.out HB9.out.size) (fun _ _ => trivial)) (below_alloc (Below.refl _ _) _), below_alloc HBA.out _⟩⟩
        generalize wA.alloc _ = wB at DM ⊢
        generalize wA.heap.size = gl at DM ⊢
        clear HT9 HTA HT10 HB7 HB8 HB9 HBA BX7 BX8 BX9 BXA HL HG g1 g2
        go_loopw [102] (fun v102 wr2 => ∃ k : Nat, v102 = .int .i64 (k : Int) ∧ k ≤ 2 ∧ Aside0 (DMem w wr2 gb gl A0 A1 R.length E.length c0 c1 (.slice B14 ts.length d14) (.slice B16 fs.length d16) ts fs)) (fun v102 _ => 2 - (intOf v102).toNat)
        case atStart => exact ⟨0, rfl, by omega, DM⟩
        case round =>
          clear DM
          obtain ⟨k, rfl, hk, DMr⟩ := hrel
          by_cases hk2 : k < 2
          · have hkb : decide ((k : Int) < 2) = true := by simp; omega
            have hk0 : (0 : Int) ≤ (k : Int) := by omega
            have hk1 : (k : Int) < 2 := by omega
            obtain ⟨X, B, d, xc, hX, hXB⟩ := DMr.out.pick k hk2
            have HXB := Aside0.mk hXB
            have HRW := Aside0.mk (HKP.out X hX)
            clear hX hXB
            by_cases hX0 : X.length = 0
            · have b1 : ((X.length : Int) == 0) = true := by simp [hX0]
              clear hX0
              go_wp2_with fail
              go_roundw
              case rel => exact ⟨k + 1, by go_num, by omega, DMr⟩
              case measure => simp [intOf]; omega
            · have b1 : ((X.length : Int) == 0) = false := by simpa using hX0
              have HRV : Aside0 (X.length = E.length ∧ ∀ i : Nat, i < l.length → (at_ < 0 ∨ (i : Int) < at_) → rf_Keeps.f X (rd_T56 l i).f0 (rd_T56 l i).f1 (rd_T56 l i).f2 (rd_T56 l i).f3 = some true) := ⟨HRW.out.resolve_left hX0⟩
              have b2 : ((X.length : Int) != (E.length : Int)) = false := by simp [HRV.out.1]
              clear hX0 HRW
              have p1 : wr.cell? ⟨gb, 1, none⟩ = some (.slice A1 E.length c1) := (blk_cell DMr.out.box 1).trans rfl
              obtain ⟨wo, hwo⟩ : ∃ wo : World, wo = wr := ⟨_, rfl⟩
              subst hwo
              go_wp2_with fail
              clear p1 xc
              go_loopw [21] (fun v21 wr3 => ∃ j : Nat, v21 = .int .i64 (j : Int) ∧ j ≤ l.length ∧ Aside0 (DMem w wr3 gb gl A0 A1 R.length E.length c0 c1 (.slice B14 ts.length d14) (.slice B16 fs.length d16) ts fs ∧ Below wo.heap.size wo wr3)) (fun v21 _ => l.length - (intOf v21).toNat)
              case atStart => exact ⟨0, rfl, by omega, ⟨DMr.out, Below.refl _ _⟩⟩
              case round =>
              clear DMr
              obtain ⟨j, rfl, hj, DMi⟩ := hrel
              by_cases hjl : j < l.length
              · have hjb : decide ((j : Int) < (l.length : Int)) = true := by simpa using hjl
                have hj0 : (0 : Int) ≤ (j : Int) := by omega
                have hj1 : (j : Int) < (l.length : Int) := by omega
                by_cases a0 : at_ < 0
                · have a0b : decide (at_ < 0) = true := by simpa using a0
                  have HKV := Aside0.mk (HRV.out.2 j hjl (.inl a0))
                  clear a0
                  obtain ⟨ad, eA, x0, x1, x2, x3⟩ := at_T56 (Kd.C_below HR2.out DMi.out.1.bel) (j : Int) (by omega) (by omega)
                  cases eA
                  simp only [Int.toNat_natCast] at x0 x1 x2 x3
                  go_wp2_with (first
                    | (go_at_call 33; refine (rf_Keeps.calls B d X _ _ _ _ true _ (HXB.out _ DMi.out.2).1 (HXB.out _ DMi.out.2).2 HKV.out).mono ?_; rintro e wk ⟨rfl, hbk_⟩; have hbk := Aside0.mk hbk_; clear hbk_))
                  go_roundw
                  case rel => exact ⟨j + 1, by go_num, by omega, ⟨DMi.out.1.below hbk.out, below_step DMi.out.2 hbk.out⟩⟩
                  case measure => simp [intOf]; omega
                · have a0b : decide (at_ < 0) = false := by simpa using a0
                  by_cases a1 : (j : Int) < at_
                  · have a1b : decide ((j : Int) < at_) = true := by simpa using a1
                    have HKV := Aside0.mk (HRV.out.2 j hjl (.inr a1))
                    clear a0 a1
                    obtain ⟨ad, eA, x0, x1, x2, x3⟩ := at_T56 (Kd.C_below HR2.out DMi.out.1.bel) (j : Int) (by omega) (by omega)
                    cases eA
                    simp only [Int.toNat_natCast] at x0 x1 x2 x3
                    go_wp2_with (first
                      | (go_at_call 33; refine (rf_Keeps.calls B d X _ _ _ _ true _ (HXB.out _ DMi.out.2).1 (HXB.out _ DMi.out.2).2 HKV.out).mono ?_; rintro e wk ⟨rfl, hbk_⟩; have hbk := Aside0.mk hbk_; clear hbk_))
                    go_roundw
                    case rel => exact ⟨j + 1, by go_num, by omega, ⟨DMi.out.1.below hbk.out, below_step DMi.out.2 hbk.out⟩⟩
                    case measure => simp [intOf]; omega
                  · have a1b : decide ((j : Int) < at_) = false := by simpa using a1
                    clear a0 a1
                    go_wp2_with fail
                    go_roundw
                    case rel => exact ⟨k + 1, by go_num, by omega, ⟨DMi.out.1⟩⟩
                    case measure => simp [intOf]; omega
              · have hjb : decide ((j : Int) < (l.length : Int)) = false := by simpa using hjl
                go_wp2_with fail
                go_roundw
                case rel => exact ⟨k + 1, by go_num, by omega, ⟨DMi.out.1⟩⟩
                case measure => simp [intOf]; omega
          · have hkb : decide ((k : Int) < 2) = false := by simp; omega
            have p0 : wr.cell? ⟨gb, 0, none⟩ = some (.slice A0 R.length c0) := (blk_cell DMr.out.box 0).trans rfl
            have p1 : wr.cell? ⟨gb, 1, none⟩ = some (.slice A1 E.length c1) := (blk_cell DMr.out.box 1).trans rfl
            by_cases hin : (0 ≤ fr ∧ fr < E.length) ∧ (0 ≤ tt ∧ tt < E.length)
            · obtain ⟨⟨f1, f2⟩, f3, f4⟩ := hin
              obtain ⟨m, ps, told, hti, hto⟩ := demands_tight HK.out H24.out.1 fr tt ⟨f1, f2⟩ ⟨f3, f4⟩ fs _ HEAR.out
              have HTI := Aside0.mk hti
              have c1_ : decide (fr < 0) = false := by simp; omega
              have c2_ : decide (fr ≥ (E.length : Int)) = false := by simp; omega
              have c3_ : decide (tt < 0) = false := by simp; omega
              have c4_ : decide (tt ≥ (E.length : Int)) = false := by simp; omega
              clear hti
              cases told
              · clear hto
                go_wp2_with (first
                  | (go_at_call 17; refine (dr_Tight.calls A0 c0 R A1 c1 E fr tt m ps _ 0 _ (Kd.C_below HR0.out DMr.out.bel) HC0.out (Kd.C_below HR1.out DMr.out.bel) HC1.out HTI.out).mono ?_; rintro e wt ⟨vt, rfl, hTt, hbt⟩; obtain ⟨Bt, dt, et, _, _⟩ := Kd.R_reads hTt; subst et; have DMt := Aside0.mk (DMr.out.below hbt); clear p0 p1; have p0 : wt.cell? ⟨gb, 0, none⟩ = some (.slice A0 R.length c0) := (blk_cell DMt.out.box 0).trans rfl; have p1 : wt.cell? ⟨gb, 1, none⟩ = some (.slice A1 E.length c1) := (blk_cell DMt.out.box 1).trans rfl; clear hbt hTt))
                go_ret
                exact ⟨rfl, DMt.out.bel⟩
              · obtain ⟨hs, hall, hm1, hre⟩ := hto rfl
                have HRE := Aside0.mk hre
                have HM1 := Aside0.mk hm1
                clear hto hre hm1
                subst hs
                obtain ⟨qf1, qf2⟩ := hall fs (HSF.out rfl)
                have bbf : decide (wrap64 (rd fs tt - rd fs fr) > m) = false := by simp; omega
                have rf1 : fr < (fs.length : Int) := by omega
                have rf2 : tt < (fs.length : Int) := by omega
                have HQf := Aside0.mk qf1
                clear qf1 qf2
                clear hall
                go_wp2_with (first
                  | (go_at_call 17; refine (dr_Tight.calls A0 c0 R A1 c1 E fr tt m ps _ 0 _ (Kd.C_below HR0.out DMr.out.bel) HC0.out (Kd.C_below HR1.out DMr.out.bel) HC1.out HTI.out).mono ?_; rintro e wt ⟨vt, rfl, hTt, hbt⟩; obtain ⟨Bt, dt, et, _, _⟩ := Kd.R_reads hTt; subst et; have DMt := Aside0.mk (DMr.out.below hbt); clear p0 p1; have p0 : wt.cell? ⟨gb, 0, none⟩ = some (.slice A0 R.length c0) := (blk_cell DMt.out.box 0).trans rfl; have p1 : wt.cell? ⟨gb, 1, none⟩ = some (.slice A1 E.length c1) := (blk_cell DMt.out.box 1).trans rfl; clear hbt hTt; obtain ⟨_, fkf, gkf⟩ := Kd.R_reads' DMt.out.f; obtain ⟨akf, ekf, ykf⟩ := Kd.at_int gkf tt (by omega) (by omega); cases ekf; obtain ⟨bkf, lkf, zkf⟩ := Kd.at_int gkf fr (by omega) (by omega); cases lkf; clear fkf gkf))
                go_quiet (fail)
                have DMu := Aside0.mk (DMt.out.below (pw_below_drewN (Below.refl _ wt) nq))
                go_wp2_with (first
                  | (go_at_call 51; refine (reaches_any R E A0 A1 c0 c1 fr tt m (m - 1) _ (Kd.C_below HR0.out DMu.out.bel) HC0.out (Kd.C_below HR1.out DMu.out.bel) HC1.out HK.out HM1.out HRE.out).mono ?_; rintro e wv ⟨rfl, hbv⟩; have HBV := Aside0.mk (below_step DMu.out.bel hbv); clear hbv))
                go_ret
                exact ⟨rfl, HBV.out⟩
            · rcases (show decide (fr < 0) = true ∨ (decide (fr < 0) = false ∧ (decide (fr ≥ (E.length : Int)) = true ∨ (decide (fr ≥ (E.length : Int)) = false ∧ (decide (tt < 0) = true ∨ (decide (tt < 0) = false ∧ decide (tt ≥ (E.length : Int)) = true))))) by
                by_cases h1 : fr < 0
                · left; simpa using h1
                · right
                  refine ⟨by simpa using h1, ?_⟩
                  by_cases h2 : fr ≥ (E.length : Int)
                  · left; simpa using h2
                  · right
                    refine ⟨by simpa using h2, ?_⟩
                    by_cases h3 : tt < 0
                    · left; simpa using h3
                    · right
                      exact ⟨by simpa using h3, by simp; omega⟩) with c1_ | ⟨c1_, c2_ | ⟨c2_, c3_ | ⟨c3_, c4_⟩⟩⟩ <;> (
                  clear hin
                  go_wp2_with fail
                  go_ret
                  exact ⟨rfl, DMr.out.bel⟩)
      · have HRT := Aside0.mk (HRS.out rfl).2
        have HFT := Aside0.mk (HSF.out rfl)
        clear HRS HSF
        go_wp2_with (first
        | (go_at_call 21; refine (dr_Holds.calls A0 c0 R A1 c1 E A c l at_ 0 _ (Kd.C_below HR0.out HB7.out) HC0.out (Kd.C_below HR1.out HB7.out) HC1.out (Kd.C_below HR2.out HB7.out) HC2.out HH.out).mono ?_; rintro e w8 ⟨rfl, hb8⟩; have HB8 := Aside0.mk (below_step HB7.out hb8); have BX8 := Aside0.mk (blk_below BX7.out hb8); clear p0 p1; have p0 : w8.cell? ⟨gb, 0, none⟩ = some (.slice A0 R.length c0) := (blk_cell BX8.out 0).trans rfl; have p1 : w8.cell? ⟨gb, 1, none⟩ = some (.slice A1 E.length c1) := (blk_cell BX8.out 1).trans rfl; clear hb8)
        | (go_at_call 49; refine (dr_Run.calls A0 c0 R A1 c1 E A2 c2 ch ts _ 0 _ (Kd.C_below HR0.out HB8.out) HC0.out (Kd.C_below HR1.out HB8.out) HC1.out (Kd.C_below HR3.out HB8.out) HC3.out HRUN.out).mono ?_; rintro e w9 ⟨v14, rfl, hT9, hb9⟩; obtain ⟨B14, d14, e14, _, _⟩ := Kd.R_reads hT9; subst e14; have HT9 := Aside0.mk hT9; have HB9 := Aside0.mk (below_step HB8.out hb9); have BX9 := Aside0.mk (blk_below BX8.out hb9); clear p0 p1; have p0 : w9.cell? ⟨gb, 0, none⟩ = some (.slice A0 R.length c0) := (blk_cell BX9.out 0).trans rfl; have p1 : w9.cell? ⟨gb, 1, none⟩ = some (.slice A1 E.length c1) := (blk_cell BX9.out 1).trans rfl; clear hb9 hT9)
        | (go_at_call 29; refine (dr_Earliest.calls A0 c0 R A1 c1 E fs _ 0 _ (Kd.C_below HR0.out HB9.out) HC0.out (Kd.C_below HR1.out HB9.out) HC1.out HEAR.out).mono ?_; rintro e wA ⟨v16, rfl, hTA, hbA⟩; obtain ⟨B16, d16, e16, _, _⟩ := Kd.R_reads hTA; subst e16; have HTA := Aside0.mk hTA; have HBA := Aside0.mk (below_step HB9.out hbA); have BXA := Aside0.mk (blk_below BX9.out hbA); have HT10 := Aside0.mk (Kd.R_below HT9.out hbA); clear p0 p1 hbA hTA))
        have DM : Aside0 (DMem w (wA.alloc (.cells #[.slice B14 ts.length d14, .slice B16 fs.length d16] 28 (0, 0))) gb wA.heap.size A0 A1 R.length E.length c0 c1 (.slice B14 ts.length d14) (.slice B16 fs.length d16) ts fs) := ⟨⟨blk_below BXA.out (below_alloc (Below.refl _ _) _), blk_new _ _, Kd.R_below (Kd.R_mono (Kd.R_lower HT10.out HB8.out.size) (fun _ _ => trivial)) (below_alloc (Below.refl _ _) _), Kd.R_below (Kd.R_mono (Kd.R_lower HTA.out HB9.out.size) (fun _ _ => trivial)) (below_alloc (Below.refl _ _) _), below_alloc HBA.out _⟩⟩
        generalize wA.alloc _ = wB at DM ⊢
        generalize wA.heap.size = gl at DM ⊢
        clear HT9 HTA HT10 HB7 HB8 HB9 HBA BX7 BX8 BX9 BXA HL HG g1 g2
        go_loopw [102] (fun v102 wr2 => ∃ k : Nat, v102 = .int .i64 (k : Int) ∧ k ≤ 2 ∧ Aside0 (DMem w wr2 gb gl A0 A1 R.length E.length c0 c1 (.slice B14 ts.length d14) (.slice B16 fs.length d16) ts fs)) (fun v102 _ => 2 - (intOf v102).toNat)
        case atStart => exact ⟨0, rfl, by omega, DM⟩
        case round =>
          clear DM
          obtain ⟨k, rfl, hk, DMr⟩ := hrel
          by_cases hk2 : k < 2
          · have hkb : decide ((k : Int) < 2) = true := by simp; omega
            have hk0 : (0 : Int) ≤ (k : Int) := by omega
            have hk1 : (k : Int) < 2 := by omega
            obtain ⟨X, B, d, xc, hX, hXB⟩ := DMr.out.pick k hk2
            have HXB := Aside0.mk hXB
            have HRW := Aside0.mk (HKP.out X hX)
            clear hX hXB
            by_cases hX0 : X.length = 0
            · have b1 : ((X.length : Int) == 0) = true := by simp [hX0]
              clear hX0
              go_wp2_with fail
              go_roundw
              case rel => exact ⟨k + 1, by go_num, by omega, DMr⟩
              case measure => simp [intOf]; omega
            · have b1 : ((X.length : Int) == 0) = false := by simpa using hX0
              have HRV : Aside0 (X.length = E.length ∧ ∀ i : Nat, i < l.length → (at_ < 0 ∨ (i : Int) < at_) → rf_Keeps.f X (rd_T56 l i).f0 (rd_T56 l i).f1 (rd_T56 l i).f2 (rd_T56 l i).f3 = some true) := ⟨HRW.out.resolve_left hX0⟩
              have b2 : ((X.length : Int) != (E.length : Int)) = false := by simp [HRV.out.1]
              clear hX0 HRW
              have p1 : wr.cell? ⟨gb, 1, none⟩ = some (.slice A1 E.length c1) := (blk_cell DMr.out.box 1).trans rfl
              obtain ⟨wo, hwo⟩ : ∃ wo : World, wo = wr := ⟨_, rfl⟩
              subst hwo
              go_wp2_with fail
              clear p1 xc
              go_loopw [21] (fun v21 wr3 => ∃ j : Nat, v21 = .int .i64 (j : Int) ∧ j ≤ l.length ∧ Aside0 (DMem w wr3 gb gl A0 A1 R.length E.length c0 c1 (.slice B14 ts.length d14) (.slice B16 fs.length d16) ts fs ∧ Below wo.heap.size wo wr3)) (fun v21 _ => l.length - (intOf v21).toNat)
              case atStart => exact ⟨0, rfl, by omega, ⟨DMr.out, Below.refl _ _⟩⟩
              case round =>
              clear DMr
              obtain ⟨j, rfl, hj, DMi⟩ := hrel
              by_cases hjl : j < l.length
              · have hjb : decide ((j : Int) < (l.length : Int)) = true := by simpa using hjl
                have hj0 : (0 : Int) ≤ (j : Int) := by omega
                have hj1 : (j : Int) < (l.length : Int) := by omega
                by_cases a0 : at_ < 0
                · have a0b : decide (at_ < 0) = true := by simpa using a0
                  have HKV := Aside0.mk (HRV.out.2 j hjl (.inl a0))
                  clear a0
                  obtain ⟨ad, eA, x0, x1, x2, x3⟩ := at_T56 (Kd.C_below HR2.out DMi.out.1.bel) (j : Int) (by omega) (by omega)
                  cases eA
                  simp only [Int.toNat_natCast] at x0 x1 x2 x3
                  go_wp2_with (first
                    | (go_at_call 33; refine (rf_Keeps.calls B d X _ _ _ _ true _ (HXB.out _ DMi.out.2).1 (HXB.out _ DMi.out.2).2 HKV.out).mono ?_; rintro e wk ⟨rfl, hbk_⟩; have hbk := Aside0.mk hbk_; clear hbk_))
                  go_roundw
                  case rel => exact ⟨j + 1, by go_num, by omega, ⟨DMi.out.1.below hbk.out, below_step DMi.out.2 hbk.out⟩⟩
                  case measure => simp [intOf]; omega
                · have a0b : decide (at_ < 0) = false := by simpa using a0
                  by_cases a1 : (j : Int) < at_
                  · have a1b : decide ((j : Int) < at_) = true := by simpa using a1
                    have HKV := Aside0.mk (HRV.out.2 j hjl (.inr a1))
                    clear a0 a1
                    obtain ⟨ad, eA, x0, x1, x2, x3⟩ := at_T56 (Kd.C_below HR2.out DMi.out.1.bel) (j : Int) (by omega) (by omega)
                    cases eA
                    simp only [Int.toNat_natCast] at x0 x1 x2 x3
                    go_wp2_with (first
                      | (go_at_call 33; refine (rf_Keeps.calls B d X _ _ _ _ true _ (HXB.out _ DMi.out.2).1 (HXB.out _ DMi.out.2).2 HKV.out).mono ?_; rintro e wk ⟨rfl, hbk_⟩; have hbk := Aside0.mk hbk_; clear hbk_))
                    go_roundw
                    case rel => exact ⟨j + 1, by go_num, by omega, ⟨DMi.out.1.below hbk.out, below_step DMi.out.2 hbk.out⟩⟩
                    case measure => simp [intOf]; omega
                  · have a1b : decide ((j : Int) < at_) = false := by simpa using a1
                    clear a0 a1
                    go_wp2_with fail
                    go_roundw
                    case rel => exact ⟨k + 1, by go_num, by omega, ⟨DMi.out.1⟩⟩
                    case measure => simp [intOf]; omega
              · have hjb : decide ((j : Int) < (l.length : Int)) = false := by simpa using hjl
                go_wp2_with fail
                go_roundw
                case rel => exact ⟨k + 1, by go_num, by omega, ⟨DMi.out.1⟩⟩
                case measure => simp [intOf]; omega
          · have hkb : decide ((k : Int) < 2) = false := by simp; omega
            have p0 : wr.cell? ⟨gb, 0, none⟩ = some (.slice A0 R.length c0) := (blk_cell DMr.out.box 0).trans rfl
            have p1 : wr.cell? ⟨gb, 1, none⟩ = some (.slice A1 E.length c1) := (blk_cell DMr.out.box 1).trans rfl
            by_cases hin : (0 ≤ fr ∧ fr < E.length) ∧ (0 ≤ tt ∧ tt < E.length)
            · obtain ⟨⟨f1, f2⟩, f3, f4⟩ := hin
              obtain ⟨m, ps, told, hti, hto⟩ := demands_tight HK.out H24.out.1 fr tt ⟨f1, f2⟩ ⟨f3, f4⟩ fs _ HEAR.out
              have HTI := Aside0.mk hti
              have c1_ : decide (fr < 0) = false := by simp; omega
              have c2_ : decide (fr ≥ (E.length : Int)) = false := by simp; omega
              have c3_ : decide (tt < 0) = false := by simp; omega
              have c4_ : decide (tt ≥ (E.length : Int)) = false := by simp; omega
              clear hti
              cases told
              · clear hto
                go_wp2_with (first
                  | (go_at_call 17; refine (dr_Tight.calls A0 c0 R A1 c1 E fr tt m ps _ 0 _ (Kd.C_below HR0.out DMr.out.bel) HC0.out (Kd.C_below HR1.out DMr.out.bel) HC1.out HTI.out).mono ?_; rintro e wt ⟨vt, rfl, hTt, hbt⟩; obtain ⟨Bt, dt, et, _, _⟩ := Kd.R_reads hTt; subst et; have DMt := Aside0.mk (DMr.out.below hbt); clear p0 p1; have p0 : wt.cell? ⟨gb, 0, none⟩ = some (.slice A0 R.length c0) := (blk_cell DMt.out.box 0).trans rfl; have p1 : wt.cell? ⟨gb, 1, none⟩ = some (.slice A1 E.length c1) := (blk_cell DMt.out.box 1).trans rfl; clear hbt hTt))
                go_ret
                exact ⟨rfl, DMt.out.bel⟩
              · obtain ⟨hs, hall, hm1, hre⟩ := hto rfl
                have HRE := Aside0.mk hre
                have HM1 := Aside0.mk hm1
                clear hto hre hm1
                obtain ⟨qt1, qt2⟩ := hall ts HRT.out
                have bbt : decide (wrap64 (rd ts tt - rd ts fr) > m) = false := by simp; omega
                have rt1 : fr < (ts.length : Int) := by omega
                have rt2 : tt < (ts.length : Int) := by omega
                have HQt := Aside0.mk qt1
                clear qt1 qt2
                obtain ⟨qf1, qf2⟩ := hall fs HFT.out
                have bbf : decide (wrap64 (rd fs tt - rd fs fr) > m) = false := by simp; omega
                have rf1 : fr < (fs.length : Int) := by omega
                have rf2 : tt < (fs.length : Int) := by omega
                have HQf := Aside0.mk qf1
                clear qf1 qf2
                clear hall
                go_wp2_with (first
                  | (go_at_call 17; refine (dr_Tight.calls A0 c0 R A1 c1 E fr tt m ps _ 0 _ (Kd.C_below HR0.out DMr.out.bel) HC0.out (Kd.C_below HR1.out DMr.out.bel) HC1.out HTI.out).mono ?_; rintro e wt ⟨vt, rfl, hTt, hbt⟩; obtain ⟨Bt, dt, et, _, _⟩ := Kd.R_reads hTt; subst et; have DMt := Aside0.mk (DMr.out.below hbt); clear p0 p1; have p0 : wt.cell? ⟨gb, 0, none⟩ = some (.slice A0 R.length c0) := (blk_cell DMt.out.box 0).trans rfl; have p1 : wt.cell? ⟨gb, 1, none⟩ = some (.slice A1 E.length c1) := (blk_cell DMt.out.box 1).trans rfl; clear hbt hTt; obtain ⟨_, fkt, gkt⟩ := Kd.R_reads' DMt.out.t; obtain ⟨akt, ekt, ykt⟩ := Kd.at_int gkt tt (by omega) (by omega); cases ekt; obtain ⟨bkt, lkt, zkt⟩ := Kd.at_int gkt fr (by omega) (by omega); cases lkt; clear fkt gkt; obtain ⟨_, fkf, gkf⟩ := Kd.R_reads' DMt.out.f; obtain ⟨akf, ekf, ykf⟩ := Kd.at_int gkf tt (by omega) (by omega); cases ekf; obtain ⟨bkf, lkf, zkf⟩ := Kd.at_int gkf fr (by omega) (by omega); cases lkf; clear fkf gkf))
                go_quiet (fail)
                have DMu := Aside0.mk (DMt.out.below (pw_below_drewN (Below.refl _ wt) nq))
                go_wp2_with (first
                  | (go_at_call 51; refine (reaches_any R E A0 A1 c0 c1 fr tt m (m - 1) _ (Kd.C_below HR0.out DMu.out.bel) HC0.out (Kd.C_below HR1.out DMu.out.bel) HC1.out HK.out HM1.out HRE.out).mono ?_; rintro e wv ⟨rfl, hbv⟩; have HBV := Aside0.mk (below_step DMu.out.bel hbv); clear hbv))
                go_ret
                exact ⟨rfl, HBV.out⟩
            · rcases (show decide (fr < 0) = true ∨ (decide (fr < 0) = false ∧ (decide (fr ≥ (E.length : Int)) = true ∨ (decide (fr ≥ (E.length : Int)) = false ∧ (decide (tt < 0) = true ∨ (decide (tt < 0) = false ∧ decide (tt ≥ (E.length : Int)) = true))))) by
                by_cases h1 : fr < 0
                · left; simpa using h1
                · right
                  refine ⟨by simpa using h1, ?_⟩
                  by_cases h2 : fr ≥ (E.length : Int)
                  · left; simpa using h2
                  · right
                    refine ⟨by simpa using h2, ?_⟩
                    by_cases h3 : tt < 0
                    · left; simpa using h3
                    · right
                      exact ⟨by simpa using h3, by simp; omega⟩) with c1_ | ⟨c1_, c2_ | ⟨c2_, c3_ | ⟨c3_, c4_⟩⟩⟩ <;> (
                  clear hin
                  go_wp2_with fail
                  go_ret
                  exact ⟨rfl, DMr.out.bel⟩)
theorem lw_DriftDemands.calls (k : Nat) (A0 : Option Addr) (c0 : Nat) (R : List S42) (A1 : Option Addr) (c1 : Nat) (E : List S80) (A : Option Addr) (c : Nat) (l : List S56) (A2 : Option Addr) (c2 : Nat) (ch : List Int) (fr tt : Int) (r : Bool) (w : World) (hr0 : Kd.C k42 w A0 R.length R) (hc0 : R.length ≤ c0) (hr1 : Kd.C k80 w A1 E.length E) (hc1 : E.length ≤ c1) (hr2 : Kd.C k56 w A l.length l) (hc2 : l.length ≤ c) (hr3 : Kd.C (Kd.int .i64) w A2 ch.length ch) (hc3 : ch.length ≤ c2) (h : r = true) :
    Calls Try.prog 10 #[.agg #[.slice A0 R.length c0, .slice A1 E.length c1], .slice A l.length c, .slice A2 ch.length c2, .int .i64 fr, .int .i64 tt] w fun e w' => e = .returned (.bool r) ∧ Below w.heap.size w w' := by
  subst h
  have E1 := demands_early R E A0 A1 A A2 c0 c1 c c2 l ch fr tt w hr0 hc0 hr1 hc1
  by_cases h16 : E.length > 16
  · exact E1 (.inl (by simp; omega))
  · have d1 : decide ((E.length : Int) > 16) = false := by simp; omega
    cases hp : planOK R E
    · exact E1 (.inr ⟨d1, .inl hp⟩)
    · by_cases h8 : l.length > 8
      · exact E1 (.inr ⟨d1, .inr ⟨hp, by simp; omega⟩⟩)
      · exact demands_main R E A0 A1 A A2 c0 c1 c c2 l ch fr tt w hr0 hc0 hr1 hc1 hr2 hc2 hr3 hc3 ((planOK_iff R E).1 hp) d1 (by simp; omega)
end Go.Proofs.Ytlfopemghafboaa.D
