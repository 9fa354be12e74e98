/- The contracts of the reference's Tight, Earliest and Holds, by walks through their code. No condition beyond each theorem's own hypotheses. -/
import Derived.Test.YtlfopemghafboaaDe5
import Derived.Test.YtlfopemghafboaaDe6
import Derived.Test.YtlfopemghafboaaDx6
namespace Go.Proofs.Ytlfopemghafboaa.D
open Go.RowKit Go.Proofs.YtlfopemghafboaaW.PrintWords Go.Proofs.YtlfopemghafboaaW.PrintLast Go.Proofs.YtlfopemghafboaaW.PrintMore
set_option linter.unusedVariables false
set_option linter.unusedSimpArgs false
theorem bkeep_ {w W : World} {p : Addr} {v : Value} (h : Below w.drew.heap.size w.drew W) (hc : w.cell? p = some v) : W.cell? p = some v := (h.cell (World.block_lt_of_cell? w _ hc)).trans hc
set_option maxHeartbeats 3200000 in
set_option maxRecDepth 100000 in
theorem rearliest_any (R : List S42) (E : List S80) (A0 A1 : Option Addr) (c0 c1 : Nat) (w : World) (hr0 : Kd.C k42 w A0 R.length R) (hc0 : R.length ≤ c0) (hr1 : Kd.C k80 w A1 E.length E) (hc1 : E.length ≤ c1) (h24 : E.length ≤ 24) (ts : List Int) (is : Bool) (er : Int) (h : dr_Earliest.f R E = some (ts, is, er)) :
    Calls Try.prog 31 #[.agg #[.slice A0 R.length c0, .slice A1 E.length c1]] w fun e w' => ∃ v0_ : Value, e = .returned (.tuple #[v0_, .bool is, .int .i64 er]) ∧ Kd.R (Kd.int .i64) 3 w' w.heap.size (fun _ => True) v0_ ts ∧ Below w.heap.size w w' := by
  have HR0 := Aside0.mk hr0
  have HR1 := Aside0.mk hr1
  have HC0 := Aside0.mk hc0
  have HC1 := Aside0.mk hc1
  have HI : Aside0 (rf_IsPlan.f 1000 R E = some (planOK R E)) := ⟨isPlan_val R E 1000 (by omega)⟩
  clear hr0 hr1 hc0 hc1
  cases hpl : planOK R E
  · rw [hpl] at HI
    unfold dr_Earliest.f at h
    rw [if_neg (by rw [hpl]; decide)] at h
    injection h with h; injection h with e1 h; injection h with e2 e3
    subst e1; subst e2; subst e3
    clear hpl
    go_enter Try.func31, Try.ntmps31
    go_wp2_with (first
      | ((with_reducible refine gate_dst (N := 1) rfl ?_); refine box_event ?hg (N := 1) ?hd (cs := #[.slice A0 R.length c0, .slice A1 E.length c1]) (t := 25) ?hr ?_; (case hd => rfl); (case hg => rfl); (case hr => first | (go_simp; done) | (go_simp; rfl)); intro gb hg w2 hbox hb; have HB := Aside0.mk hb; have BX := Aside0.mk hbox; have p0 : w2.cell? ⟨gb, 0, none⟩ = some (.slice A0 R.length c0) := (blk_cell hbox 0).trans rfl; have p1 : w2.cell? ⟨gb, 1, none⟩ = some (.slice A1 E.length c1) := (blk_cell hbox 1).trans rfl; clear hb hbox hg)
      | (go_at_call 28; refine (rf_IsPlan.calls 1000 A0 c0 R A1 c1 E _ _ (Kd.C_below HR0.out HB.out) HC0.out (Kd.C_below HR1.out HB.out) HC1.out HI.out).mono ?_; rintro e w3 ⟨rfl, hb3⟩; have HB3 := Aside0.mk (below_step HB.out hb3); have BX3 := Aside0.mk (blk_below BX.out hb3); clear p0 p1; have p0 : w3.cell? ⟨gb, 0, none⟩ = some (.slice A0 R.length c0) := (blk_cell BX3.out 0).trans rfl; have p1 : w3.cell? ⟨gb, 1, none⟩ = some (.slice A1 E.length c1) := (blk_cell BX3.out 1).trans rfl; clear hb3))
    go_ret3
    exact ⟨_, rfl, Kd.R_nil _ _ _ _ _, HB3.out⟩
  · rw [hpl] at HI
    have hK := (planOK_iff R E).1 hpl
    obtain ⟨e0, t1, t2⟩ := earliest_ways hK h24 ts is er h
    subst e0
    have hp := hK.pos
    have T1 := Aside0.mk t1
    have T2 := Aside0.mk t2
    have HK := Aside0.mk hK
    clear h t1 t2 hpl hK
    go_enter Try.func31, Try.ntmps31
    go_wp2_with (first
      | ((with_reducible refine gate_dst (N := 1) rfl ?_); refine box_event ?hg (N := 1) ?hd (cs := #[.slice A0 R.length c0, .slice A1 E.length c1]) (t := 25) ?hr ?_; (case hd => rfl); (case hg => rfl); (case hr => first | (go_simp; done) | (go_simp; rfl)); intro gb hg w2 hbox hb; have HB := Aside0.mk hb; have BX := Aside0.mk hbox; have p0 : w2.cell? ⟨gb, 0, none⟩ = some (.slice A0 R.length c0) := (blk_cell hbox 0).trans rfl; have p1 : w2.cell? ⟨gb, 1, none⟩ = some (.slice A1 E.length c1) := (blk_cell hbox 1).trans rfl; clear hb hbox hg)
      | (go_at_call 28; refine (rf_IsPlan.calls 1000 A0 c0 R A1 c1 E _ _ (Kd.C_below HR0.out HB.out) HC0.out (Kd.C_below HR1.out HB.out) HC1.out HI.out).mono ?_; rintro e w3 ⟨rfl, hb3⟩; have HB3 := Aside0.mk (below_step HB.out hb3); have BX3 := Aside0.mk (blk_below BX.out hb3); clear p0 p1; have p0 : w3.cell? ⟨gb, 0, none⟩ = some (.slice A0 R.length c0) := (blk_cell BX3.out 0).trans rfl; have p1 : w3.cell? ⟨gb, 1, none⟩ = some (.slice A1 E.length c1) := (blk_cell BX3.out 1).trans rfl; clear hb3))
    refine (rways_any R E A0 A1 c0 c1 _ (Kd.C_below HR0.out HB3.out) HC0.out (Kd.C_below HR1.out HB3.out) HC1.out HK.out h24).mono ?_; rintro e w4 ⟨v4, circ, rfl, hb4, hW⟩; have HB4 := Aside0.mk (below_step HB3.out hb4); have BX4 := Aside0.mk (blk_below BX3.out hb4); clear hb4 p0 p1
    have q1 : w4.cell? ⟨gb, 1, none⟩ = some (.slice A1 E.length c1) := (blk_cell BX4.out 1).trans rfl
    rcases hW with ⟨rfl, rfl, hN⟩ | ⟨rfl, g, c, m, rfl, hM, hF⟩
    · obtain ⟨rfl, rfl⟩ := T1.out hN
      clear hN
      go_wp2_with fail
      go_ret3
      exact ⟨_, rfl, Kd.R_nil _ _ _ _ _, HB4.out⟩
    · obtain ⟨rfl, t3, t4⟩ := T2.out _ hF
      have HV := Aside0.mk t4
      have HL := Aside0.mk t3
      have HM := Aside0.mk hM
      clear t3 t4 hF hM T1 T2
      go_wp2_with fail
      go_loopw [7, 8] (fun v7 v8 wr => ∃ i : Nat, v8 = .int .i64 (i : Int) ∧ i ≤ E.length ∧ Aside0 (OutI w4 wr v7 (ts.take i))) (fun _ v8 _ => E.length - (intOf v8).toNat)
      case atStart => exact ⟨0, rfl, by omega, ⟨Kd.R_nil _ _ _ _ _, Below.refl _ _⟩⟩
      case round =>
        clear q1
        obtain ⟨i, rfl, hi, HT⟩ := hrel
        have q1 : wr.cell? ⟨gb, 1, none⟩ = some (.slice A1 E.length c1) := (blk_cell (blk_below BX4.out HT.out.2) 1).trans rfl
        by_cases hlt : i < E.length
        · have hltb : decide ((i : Int) < (E.length : Int)) = true := by simpa using hlt
          have hi0 : (0 : Int) ≤ (i : Int) := by omega
          have hi1 : (i : Int) < (E.length : Int) := by omega
          have hz1 : (0 : Int) < (E.length : Int) := by omega
          obtain ⟨bk, dk, k0, _, kf⟩ := (HM.out.below HT.out.2).at i hlt
          obtain ⟨k1, _, _⟩ := kf 0 (by omega)
          have HX : Aside0 (ts.take i ++ [wrap64 (-(mv m (i : Int) ((0 : Nat) : Int)))] = ts.take (i + 1)) := ⟨by
            have e := HV.out i hlt
            rw [List.take_add_one, List.getElem?_eq_getElem (by have := HL.out; omega)]
            have e2 : rd ts (i : Int) = ts[i]'(by have := HL.out; omega) := by simp [rd, List.getD_eq_getElem?_getD, List.getElem?_eq_getElem (show i < ts.length by have := HL.out; omega)]
            rw [← e2, e]
            rfl⟩
          have HTL : Aside0 ((ts.take i).length < 1000000) := ⟨by rw [List.length_take]; omega⟩
          generalize mv m (i : Int) ((0 : Nat) : Int) = z at k1 HX
          clear kf
          go_wp2_with (at_builtin; refine outI_append (w := w4) rfl (.tmp 25) (.tmp 33) rfl _ (ts.take i) _ rfl (by first | (go_simp; done) | (go_simp; rfl)) HT.out HTL.out ?_; intro v1 w1 hT1; have HT1 := Aside0.mk hT1; clear hT1)
          go_roundw
          case rel => exact ⟨i + 1, by go_num, by omega, by rw [← HX.out]; exact HT1⟩
          case measure => simp [intOf]; omega
        · have hltb : decide ((i : Int) < (E.length : Int)) = false := by simpa using hlt
          have HTS : Aside0 (ts.take i = ts) := ⟨List.take_of_length_le (by have := HL.out; omega)⟩
          go_wp2_with fail
          go_ret3
          exact ⟨_, rfl, Kd.R_lower (by have := HT.out.1; rw [HTS.out] at this; exact this) HB4.out.size, below_step HB4.out HT.out.2⟩
end Go.Proofs.Ytlfopemghafboaa.D
