/- The contract of the reference's binds, by a walk through its code. No condition beyond each theorem's own hypotheses. -/
import Derived.Test.YtlfopemghafboaaDpr
import Derived.Test.YtlfopemghafboaaDapi
import Derived.WalkSpells
import Derived.Handy
import Derived.StillTailTactics
import Derived.IntWalk
import Derived.Deep.LoopGhost
import Derived.Deep.RegionWith
import Derived.Deep.RegionHeld3
import Derived.Shelf.Abstract
namespace Go.Proofs.Ytlfopemghafboaa.D
open Go.RowKit Go.Proofs.YtlfopemghafboaaW.PrintWords Go.Proofs.YtlfopemghafboaaW.PrintLast Go.Proofs.YtlfopemghafboaaW.PrintMore
set_option linter.unusedVariables false
set_option linter.unusedSimpArgs false
/-- A struct's six numbers stored into a box of the round's own. -/
theorem below_six {w W : World} {g : Nat} {v0 v1 v2 v3 v4 v5 : Value} (h : Below w.heap.size w W) (hg : w.heap.size ≤ g) : Below w.heap.size w ((((((W.setCell ⟨g, 0, none⟩ v0).setCell ⟨g, 1, none⟩ v1).setCell ⟨g, 2, none⟩ v2).setCell ⟨g, 3, none⟩ v3).setCell ⟨g, 4, none⟩ v4).setCell ⟨g, 5, none⟩ v5) :=
  below_set (below_set (below_set (below_set (below_set (below_set h hg) hg) hg) hg) hg) hg
theorem box_six {W : World} {g : Nat} {z0 z1 z2 z3 z4 z5 : Value} (h : W.heap[g]? = some (.cells #[z0, z1, z2, z3, z4, z5] 80 (0, 0))) (v0 v1 v2 v3 v4 v5 : Value) : ((((((W.setCell ⟨g, 0, none⟩ v0).setCell ⟨g, 1, none⟩ v1).setCell ⟨g, 2, none⟩ v2).setCell ⟨g, 3, none⟩ v3).setCell ⟨g, 4, none⟩ v4).setCell ⟨g, 5, none⟩ v5).heap[g]? = some (.cells #[v0, v1, v2, v3, v4, v5] 80 (0, 0)) :=
  blk_put (blk_put (blk_put (blk_put (blk_put (blk_put h 0 v0 rfl) 1 v1 rfl) 2 v2 rfl) 3 v3 rfl) 4 v4 rfl) 5 v5 rfl
set_option maxHeartbeats 3200000 in
set_option maxRecDepth 100000 in
theorem rbinds_any (R : List S42) (E : List S80) (A0 A1 : Option Addr) (c0 c1 : Nat) (w : World) (hr0 : Kd.C k42 w A0 R.length R) (hc0 : R.length ≤ c0) (hr1 : Kd.C k80 w A1 E.length E) (hc1 : E.length ≤ c1) (hK : PlanOK R E) :
    Calls Try.prog 65 #[.agg #[.slice A0 R.length c0, .slice A1 E.length c1]] w fun e w' => ∃ v, e = .returned v ∧ Out w w' v (bindsL R E) := by
  have HK := Aside0.mk hK
  have HR0 := Aside0.mk hr0
  have HR1 := Aside0.mk hr1
  have HC0 := Aside0.mk hc0
  have HC1 := Aside0.mk hc1
  have hE := hK.len
  have hp := hK.pos
  obtain ⟨hq0, hq1⟩ := hK.place 0 hp
  obtain ⟨ad0, eR, _⟩ := at_T42 hr0 (rd_T80 E ((0 : Nat) : Int)).f0 hq0 hq1
  obtain ⟨ad1, eE, _⟩ := at_T80 hr1 0 (by omega) (by omega)
  cases eR
  cases eE
  clear hq0 hq1 hr0 hr1 hc0 hc1 hK
  go_enter Try.func65, Try.ntmps65
  go_wp2_with (first | ((with_reducible refine gate_dst (N := 1) rfl ?_); refine box_event ?hg (N := 1) ?hd (cs := #[.slice (some ad0) R.length c0, .slice (some ad1) E.length c1]) (t := 25) ?hr ?_; (case hd => rfl); (case hg => rfl); (case hr => first | (go_simp; done) | (go_simp; rfl)); intro gb hg w2 hbox hb; have HB := Aside0.mk hb; have BX := Aside0.mk hbox; have HGE : Aside0 (w.heap.size ≤ gb) := ⟨by omega⟩; clear hb hbox hg))
  have HB2 := Aside0.mk (Below.refl w2.heap.size w2)
  have C1 : w2.cell? ⟨gb, 1, none⟩ = some (.slice (some ad1) E.length c1) := (blk_cell BX.out 1).trans rfl
  have C0 : w2.cell? ⟨gb, 0, none⟩ = some (.slice (some ad0) R.length c0) := (blk_cell BX.out 0).trans rfl
  have PC : Aside0 (∀ W, Below w2.heap.size w2 W → W.cell? ⟨gb, 0, none⟩ = some (.slice (some ad0) R.length c0) ∧ W.cell? ⟨gb, 1, none⟩ = some (.slice (some ad1) E.length c1)) := ⟨fun W hW => ⟨(hW.cell (World.block_lt_of_cell? _ _ C0)).trans C0, (hW.cell (World.block_lt_of_cell? _ _ C1)).trans C1⟩⟩
  clear C0 C1
  go_loopw [3, 4] (fun v3 v4 wr => ∃ j : Nat, v4 = .int .i64 (j : Int) ∧ j ≤ E.length ∧ Aside0 (Out w2 wr v3 (cbs E j))) (fun _ v _ => E.length - (intOf v).toNat)
  case atStart => exact ⟨0, rfl, by omega, ⟨Out.nil w2⟩⟩
  case round =>
    obtain ⟨j, rfl, hj, HO⟩ := hrel
    obtain ⟨pc0, pc1⟩ := PC.out wr HO.out.2
    by_cases hlt : j < E.length
    · have hltb : decide ((j : Int) < (E.length : Int)) = true := by simpa using hlt
      obtain ⟨ad, e1, x0, x1, x2, x3, x4, x5⟩ := at_T80 HR1.out (j : Int) (by omega) (by omega)
      cases e1
      have HT := Aside0.mk (below_step HB.out HO.out.2)
      replace x0 := (HT.out.cell (World.block_lt_of_cell? w _ x0)).trans x0
      replace x1 := (HT.out.cell (World.block_lt_of_cell? w _ x1)).trans x1
      replace x2 := (HT.out.cell (World.block_lt_of_cell? w _ x2)).trans x2
      replace x3 := (HT.out.cell (World.block_lt_of_cell? w _ x3)).trans x3
      replace x4 := (HT.out.cell (World.block_lt_of_cell? w _ x4)).trans x4
      replace x5 := (HT.out.cell (World.block_lt_of_cell? w _ x5)).trans x5
      simp only [Int.toNat_natCast] at x0 x1 x2 x3 x4 x5
      have HW := Aside0.mk (cbs_succ E j)
      have HL := Aside0.mk (cbs_len E j)
      have HKK := HK.out.kind j hlt
      have h3 := HK.out.ev3 j hlt
      generalize rd_T80 E (j : Int) = ev at x0 x1 x2 x3 x4 x5 HW HKK h3
      generalize cbs E j = bs at HO HW HL
      obtain ⟨f0, f1, f2, f3, f4, f5⟩ := ev
      simp only at x0 x1 x2 x3 x4 x5 HKK h3
      have jlen := hj
      go_upto_region 6 with (first
        | ((with_reducible refine gate_dst (N := 5) rfl ?_); refine box_event ?hg (N := 5) ?hd (cs := #[.int .i64 0, .int .i64 0, .int .i64 0, .int .i64 0, .int .i64 0, .int .i64 0]) (t := 80) ?hr ?_; (case hd => rfl); (case hg => rfl); (case hr => first | (go_simp; done) | (go_simp; rfl)); intro ge hge w3 hbox3 hb3; have HGE3 := Aside0.mk (Nat.le_of_eq hge.symm); have HB3 := Aside0.mk hb3; have HX3 := Aside0.mk hbox3; have z0 := (blk_cell hbox3 0).trans rfl; have z1 := (blk_cell hbox3 1).trans rfl; have z2 := (blk_cell hbox3 2).trans rfl; have z3 := (blk_cell hbox3 3).trans rfl; have z4 := (blk_cell hbox3 4).trans rfl; have z5 := (blk_cell hbox3 5).trans rfl; have y0 := blk_frozen hbox3 0; have y1 := blk_frozen hbox3 1; have y2 := blk_frozen hbox3 2; have y3 := blk_frozen hbox3 3; have y4 := blk_frozen hbox3 4; have y5 := blk_frozen hbox3 5; clear hbox3 hb3 hge x0 x1 x2 x3 x4 x5))
      have HX4 := Aside0.mk (box_six HX3.out (.int .i64 f0) (.int .i64 f1) (.int .i64 f2) (.int .i64 f3) (.int .i64 f4) (.int .i64 f5))
      have HB4 := Aside0.mk (below_six (v0 := .int .i64 f0) (v1 := .int .i64 f1) (v2 := .int .i64 f2) (v3 := .int .i64 f3) (v4 := .int .i64 f4) (v5 := .int .i64 f5) HB3.out HGE3.out)
      clear z0 z1 z2 z3 z4 z5 y0 y1 y2 y3 y4 y5
      generalize (((((w3.setCell _ _).setCell _ _).setCell _ _).setCell _ _).setCell _ _).setCell _ _ = w4 at HX4 HB4 ⊢
      have z0 : w4.cell? ⟨ge, 0, none⟩ = some (.int .i64 f0) := (blk_cell HX4.out 0).trans rfl
      have z1 : w4.cell? ⟨ge, 1, none⟩ = some (.int .i64 f1) := (blk_cell HX4.out 1).trans rfl
      have z2 : w4.cell? ⟨ge, 2, none⟩ = some (.int .i64 f2) := (blk_cell HX4.out 2).trans rfl
      have z4 : w4.cell? ⟨ge, 4, none⟩ = some (.int .i64 f4) := (blk_cell HX4.out 4).trans rfl
      have z5 : w4.cell? ⟨ge, 5, none⟩ = some (.int .i64 f5) := (blk_cell HX4.out 5).trans rfl
      have HO4 := Aside0.mk (HO.out.below HB4.out)
      have NE : Aside0 (some ge ≠ u3.ownBlock) := ⟨fun h => by obtain ⟨cs, hc⟩ := Kd.R_typed HO.out.1 ge h.symm; have l_ := blk_lt hc; have g_ := HGE3.out; omega⟩
      by_cases k1 : f1 = 1
      · have k1b : (f1 == 1) = true := by simpa using k1
        have k3b : (f1 == 3) = false := by simp; omega
        by_cases j0 : j = 0
        · have hbs : causeBs (j : Int) ⟨f0, f1, f2, f3, f4, f5⟩ = ([] : List S27) := by unfold causeBs firstBs; rw [if_pos k1, if_pos (by omega)]
          have HBS := Aside0.mk hbs
          have hjn : ¬ (0 < j) := by omega
          clear hbs k1 HKK h3 j0
          go_wp2_with fail
          go_roundw
          case rel => exact ⟨j + 1, by go_num, by omega, by rw [HW.out, HBS.out, List.append_nil]; exact HO4⟩
          case measure => simp [intOf]; omega
        · have hbs : causeBs (j : Int) ⟨f0, f1, f2, f3, f4, f5⟩ = ([⟨0, j, 0⟩, ⟨j, 0, 0⟩] : List S27) := by unfold causeBs firstBs; rw [if_pos k1, if_neg (by omega)]
          have HBS := Aside0.mk hbs
          have hjp : 0 < j := by omega
          clear hbs k1 HKK h3 j0
          go_wp2_with (at_builtin; refine out_append (w := w2) rfl _ _ rfl _ _ bs ([⟨0, j, 0⟩, ⟨j, 0, 0⟩] : List S27) rfl rfl (HO4.out.below (below_alloc (Below.refl _ w4) (.cells #[.int .i64 0, .int .i64 j, .int .i64 0, .int .i64 j, .int .i64 0, .int .i64 0] 27))) (litC2 (p := (⟨0, j, 0⟩ : S27)) (q := (⟨j, 0, 0⟩ : S27)) (blk_new w4 (.cells #[.int .i64 0, .int .i64 j, .int .i64 0, .int .i64 j, .int .i64 0, .int .i64 0] 27))) (by have := HL.out; simp; omega) ?_; intro v5 w5 hT5 hg5; have HO5 := Aside0.mk hT5; have HX5 := Aside0.mk (blk_grown (blk_alloc HX4.out _) hg5 NE.out); clear hT5 hg5 z0 z1 z2 z4 z5; have z0 : w5.cell? ⟨ge, 0, none⟩ = some (.int .i64 f0) := (blk_cell HX5.out 0).trans rfl; have z1 : w5.cell? ⟨ge, 1, none⟩ = some (.int .i64 f1) := (blk_cell HX5.out 1).trans rfl; have z2 : w5.cell? ⟨ge, 2, none⟩ = some (.int .i64 f2) := (blk_cell HX5.out 2).trans rfl; have z4 : w5.cell? ⟨ge, 4, none⟩ = some (.int .i64 f4) := (blk_cell HX5.out 4).trans rfl; have z5 : w5.cell? ⟨ge, 5, none⟩ = some (.int .i64 f5) := (blk_cell HX5.out 5).trans rfl)
          go_roundw
          case rel => exact ⟨j + 1, by go_num, by omega, by rw [HW.out, HBS.out]; exact HO5⟩
          case measure => simp [intOf]; omega
      · have k1b : (f1 == 1) = false := by simpa using k1
        by_cases k3 : f1 = 3
        · have k3b : (f1 == 3) = true := by simpa using k3
          have hbs : causeBs (j : Int) ⟨f0, f1, f2, f3, f4, f5⟩ = ([⟨f2, j, f5⟩, ⟨j, f2, wrap64 (-f4)⟩] : List S27) := by unfold causeBs postBs; rw [if_neg k1, if_neg (by simp only; omega)]
          have HBS := Aside0.mk hbs
          clear hbs k1 HKK h3 k3
          go_wp2_with (at_builtin; refine out_append (w := w2) rfl _ _ rfl _ _ bs ([⟨f2, j, f5⟩, ⟨j, f2, wrap64 (-f4)⟩] : List S27) rfl rfl (HO4.out.below (below_alloc (Below.refl _ w4) (.cells #[.int .i64 f2, .int .i64 j, .int .i64 f5, .int .i64 j, .int .i64 f2, .int .i64 (wrap64 (-f4))] 27))) (litC2 (p := (⟨f2, j, f5⟩ : S27)) (q := (⟨j, f2, wrap64 (-f4)⟩ : S27)) (blk_new w4 (.cells #[.int .i64 f2, .int .i64 j, .int .i64 f5, .int .i64 j, .int .i64 f2, .int .i64 (wrap64 (-f4))] 27))) (by have := HL.out; simp; omega) ?_; intro v5 w5 hT5 hg5; have HO5 := Aside0.mk hT5; have HX5 := Aside0.mk (blk_grown (blk_alloc HX4.out _) hg5 NE.out); clear hT5 hg5 z0 z1 z2 z4 z5; have z0 : w5.cell? ⟨ge, 0, none⟩ = some (.int .i64 f0) := (blk_cell HX5.out 0).trans rfl; have z1 : w5.cell? ⟨ge, 1, none⟩ = some (.int .i64 f1) := (blk_cell HX5.out 1).trans rfl; have z2 : w5.cell? ⟨ge, 2, none⟩ = some (.int .i64 f2) := (blk_cell HX5.out 2).trans rfl; have z4 : w5.cell? ⟨ge, 4, none⟩ = some (.int .i64 f4) := (blk_cell HX5.out 4).trans rfl; have z5 : w5.cell? ⟨ge, 5, none⟩ = some (.int .i64 f5) := (blk_cell HX5.out 5).trans rfl)
          go_roundw
          case rel => exact ⟨j + 1, by go_num, by omega, by rw [HW.out, HBS.out]; exact HO5⟩
          case measure => simp [intOf]; omega
        · have k3b : (f1 == 3) = false := by simpa using k3
          have hbs : causeBs (j : Int) ⟨f0, f1, f2, f3, f4, f5⟩ = ([] : List S27) := by unfold causeBs; rw [if_neg k1, if_pos (by simp only; omega)]
          have HBS := Aside0.mk hbs
          clear hbs k1 HKK h3 k3
          go_wp2_with fail
          go_roundw
          case rel => exact ⟨j + 1, by go_num, by omega, by rw [HW.out, HBS.out, List.append_nil]; exact HO4⟩
          case measure => simp [intOf]; omega
    · have hltb : decide ((j : Int) < (E.length : Int)) = false := by simpa using hlt
      have hj' : j = E.length := by omega
      have HJ := Aside0.mk hj'
      clear hj'
      go_wp2_with (go_at_call 79; refine (rf_readings.calls 200 (some ad0) c0 R (some ad1) c1 E _ _ _ (Kd.C_below HR0.out (below_step HB.out HO.out.2)) HC0.out (Kd.C_below HR1.out (below_step HB.out HO.out.2)) HC1.out (readings_val R E HK.out 200 (by omega))).mono ?_; rintro e w6 ⟨v6, v7, rfl, hT6, hT7, hb6⟩; have HT0 : Aside0 (Trio w2 w6 u3 v6 v7 (cbs E j) (rdL E E.length).1 (rdL E E.length).2) := ⟨⟨HO.out.below hb6, Kd.R_mono (Kd.R_lower hT6 HO.out.2.size) (fun _ _ => trivial), Kd.R_mono (Kd.R_lower hT7 HO.out.2.size) (fun _ _ => trivial)⟩⟩; clear hT6 hT7 hb6)
      rw [HJ.out] at HT0
      have HL0 := Aside0.mk (cbs_len E E.length)
      have HLf := Aside0.mk (rdL_len E E.length).1
      have HLt := Aside0.mk (rdL_len E E.length).2
      have HTS : Aside0 (∀ j : Nat, j < E.length → 0 ≤ rd (rdL E E.length).2 j ∧ rd (rdL E E.length).2 j ≤ 100000000000000) := ⟨fun j hj => by have := ticks_small R E HK.out E.length (Nat.le_refl _) j hj; omega⟩
      have HG : Aside0 (bindsL R E = cbs E E.length ++ prAll R E (rdL E E.length).1 (rdL E E.length).2 E.length ++ lastBs (E.length - 1)) := ⟨rfl⟩
      generalize (rdL E E.length).1 = fs at HT0 HLf HG
      generalize (rdL E E.length).2 = ts at HT0 HLt HG HTS
      generalize cbs E E.length = bs0 at HT0 HL0 HG
      clear HO HJ hltb hlt pc0 pc1
      obtain ⟨ad6, c6, e6⟩ := rform HT0.out.fr (by have := HLf.out; omega)
      obtain ⟨ad7, c7, e7⟩ := rform HT0.out.tk (by have := HLt.out; omega)
      subst e6
      subst e7
      have hqf : fs.length ≤ 100 := by have := HLf.out; omega
      have hqt : ts.length ≤ 100 := by have := HLt.out; omega
      obtain ⟨pc0, pc1⟩ := PC.out _ HT0.out.out.2
      go_loopw [3, 8] (fun v3 v wr => ∃ e : Nat, v = .int .i64 (e : Int) ∧ e ≤ E.length ∧ Aside0 (Trio w2 wr v3 (.slice (some ad6) fs.length c6) (.slice (some ad7) ts.length c7) (bs0 ++ prAll R E fs ts e) fs ts)) (fun _ v _ => E.length - (intOf v).toNat)
      case atStart => exact ⟨0, rfl, by omega, ⟨by simpa [prAll] using HT0.out⟩⟩
      case round =>
        clear pc0 pc1
        obtain ⟨e, rfl, he, HT⟩ := hrel
        obtain ⟨pc0, pc1⟩ := PC.out _ HT.out.out.2
        by_cases helt : e < E.length
        · have heltb : decide ((e : Int) < (E.length : Int)) = true := by simpa using helt
          go_wp2_with fail
          obtain ⟨wo, hwo⟩ : ∃ wo : World, wo = wr := ⟨_, rfl⟩
          subst hwo
          clear pc0 pc1
          go_loopw [3, 9] (fun v3 v wr => ∃ f : Nat, v = .int .i64 (f : Int) ∧ (e + 1 ≤ f ∧ f ≤ E.length) ∧ Aside0 (Trio w2 wr v3 (.slice (some ad6) fs.length c6) (.slice (some ad7) ts.length c7) (bs0 ++ prAll R E fs ts e ++ prRow R E fs ts e (f - (e + 1))) fs ts)) (fun _ v _ => E.length - (intOf v).toNat)
          case atStart => exact ⟨e + 1, by go_num, by omega, ⟨by simpa [prRow] using HT.out⟩⟩
          case round =>
            clear HT
            obtain ⟨f, rfl, hf01, HT⟩ := hrel
            obtain ⟨hf0, hf1⟩ := hf01
            obtain ⟨pc0, pc1⟩ := PC.out _ HT.out.out.2
            by_cases hflt : f < E.length
            · have hfltb : decide ((f : Int) < (E.length : Int)) = true := by simpa using hflt
              have x6e := relt HT.out.fr e (by have := HLf.out; omega)
              have x6f := relt HT.out.fr f (by have := HLf.out; omega)
              have qe : (e : Int) < (fs.length : Int) := by have := HLf.out; omega
              have qf : (f : Int) < (fs.length : Int) := by have := HLf.out; omega
              have hsub : f + 1 - (e + 1) = (f - (e + 1)) + 1 := by omega
              have HW := Aside0.mk (show prRow R E fs ts e (f + 1 - (e + 1)) = prRow R E fs ts e (f - (e + 1)) ++ pairOne R E fs ts e f from by rw [hsub, prRow_succ, show e + 1 + (f - (e + 1)) = f from by omega])
              clear hsub
              by_cases hfr : rd fs (e : Int) = rd fs (f : Int)
              · have hfrb : ((rd fs (e : Int)) != (rd fs (f : Int))) = false := by simpa using hfr
                have HF := Aside0.mk hfr
                clear hfr
                go_wp2_with fail
                go_quiet (fail)
                have T1 := Aside0.mk (HT.out.below (pw_below_drewN (Below.refl _ wr) nq))
                go_wp2_with fail
                generalize wr.drewN nq = V1 at T1 ⊢
                clear x6e x6f qe qf HT pc0 pc1
                have x7e := relt T1.out.tk e (by have := HLt.out; omega)
                have x7f := relt T1.out.tk f (by have := HLt.out; omega)
                have q0 : (e : Int) < (ts.length : Int) := by have := HLt.out; omega
                have q1 : (f : Int) < (ts.length : Int) := by have := HLt.out; omega
                by_cases hsw : rd ts (f : Int) < rd ts (e : Int)
                · have hswb : decide (rd ts (f : Int) < rd ts (e : Int)) = true := by simpa using hsw
                  have hpo : pairOne R E fs ts e f = pairAB R E (wrap64 (rd ts (e : Int) - rd ts (f : Int))) e f e := by unfold pairOne; rw [if_pos HF.out, if_pos hsw]
                  have te := HTS.out e (by omega)
                  have tf := HTS.out f (by omega)
                  have hxx : wrap64 (rd ts (e : Int) - rd ts (f : Int)) = rd ts (e : Int) - rd ts (f : Int) := wrap64_id' _ (by omega) (by omega)
                  have hx0 : 0 ≤ wrap64 (rd ts (e : Int) - rd ts (f : Int)) ∧ wrap64 (rd ts (e : Int) - rd ts (f : Int)) ≤ 100000000000000 := by rw [hxx]; omega
                  have HX := Aside0.mk hx0
                  have HPO := Aside0.mk hpo
                  clear hsw hpo hxx hx0 te tf
                  go_quiet (fail)
                  have T := Aside0.mk (T1.out.below (pw_below_drewN (Below.refl _ V1) nq))
                  go_wp2_with fail
                  clear T1 x7e x7f hswb
                  generalize V1.drewN nq = V0 at T ⊢
                  obtain ⟨pc0, pc1⟩ := PC.out _ T.out.out.2
                  obtain ⟨_, eq1, s4, _⟩ := at_T80 HR1.out (e : Int) (by omega) (by omega)
                  cases eq1
                  have HBT := Aside0.mk (below_step HB.out T.out.out.2)
                  replace s4 := (HBT.out.cell (World.block_lt_of_cell? w _ s4)).trans s4
                  simp only [Int.toNat_natCast] at s4
                  obtain ⟨pl0, pl1⟩ := HK.out.place e helt
                  obtain ⟨hr1, hr2, hr3⟩ := HK.out.rates _ pl0 pl1
                  obtain ⟨_, eq2, s5, s6⟩ := at_T42 HR0.out _ pl0 pl1
                  cases eq2
                  replace s5 := (HBT.out.cell (World.block_lt_of_cell? w _ s5)).trans s5
                  replace s6 := (HBT.out.cell (World.block_lt_of_cell? w _ s6)).trans s6
                  have HPL : Aside0 (∃ p r q, p = (rd_T80 E (e : Int)).f0 ∧ r = (rd_T42 R p).f0 ∧ q = (rd_T42 R p).f1) := ⟨_, _, _, rfl, rfl, rfl⟩
                  obtain ⟨pl, r0, r1, hpl, hr0', hr1'⟩ := HPL.out
                  clear HPL
                  rw [← hpl] at s4 s5 s6 pl0 pl1 hr1 hr2 hr3
                  rw [← hr0'] at s5 hr1 hr2
                  rw [← hr1'] at s6 hr2 hr3
                  have hpair : pairAB R E (wrap64 (rd ts (e : Int) - rd ts (f : Int))) e f e = [⟨(f : Int), (e : Int), wrap64 (Int.tdiv (wrap64 (rd ts (e : Int) - rd ts (f : Int))) r0)⟩, ⟨(e : Int), (f : Int), wrap64 (-(upR (wrap64 (rd ts (e : Int) - rd ts (f : Int))) r1))⟩] := by unfold pairAB; rw [← hpl, ← hr0', ← hr1']
                  have HPAIR := Aside0.mk hpair
                  have HRR : Aside0 (1 ≤ r0 ∧ r0 ≤ r1 ∧ r1 ≤ 1000000) := ⟨⟨hr1, hr2, hr3⟩⟩
                  have hrz : r0 ≠ 0 := by omega
                  clear hpair hpl hr0' hr1' hr1 hr2 hr3
                  have hS0 : V0.cell? ⟨gb, 0, none⟩ = some (.slice (some ad0) R.length c0) ∧ V0.cell? ⟨gb, 1, none⟩ = some (.slice (some ad1) E.length c1) ∧ V0.cell? (ad1.add (e * 6)) = some (.int .i64 pl) ∧ V0.cell? (ad0.add (pl.toNat * 2)) = some (.int .i64 r0) ∧ V0.cell? ⟨(ad0.add (pl.toNat * 2)).block, (ad0.add (pl.toNat * 2)).off + 1, none⟩ = some (.int .i64 r1) := ⟨pc0, pc1, s4, s5, s6⟩
                  clear pc0 pc1 s4 s5 s6
                  have ne0 := World.new_ne V0 _ hS0.1
                  have ne1 := World.new_ne V0 _ hS0.2.1
                  have ne2 := World.new_ne V0 _ hS0.2.2.1
                  have ne3 := World.new_ne V0 _ hS0.2.2.2.1
                  have ne4 := World.new_ne V0 _ hS0.2.2.2.2
                  obtain ⟨s1, s2, s3, s4, s5⟩ := hS0
                  have hS0 : V0.cell? ⟨gb, 0, none⟩ = some (.slice (some ad0) R.length c0) ∧ V0.cell? ⟨gb, 1, none⟩ = some (.slice (some ad1) E.length c1) ∧ V0.cell? (ad1.add (e * 6)) = some (.int .i64 pl) ∧ V0.cell? (ad0.add (pl.toNat * 2)) = some (.int .i64 r0) ∧ V0.cell? ⟨(ad0.add (pl.toNat * 2)).block, (ad0.add (pl.toNat * 2)).off + 1, none⟩ = some (.int .i64 r1) := ⟨s1, s2, s3, s4, s5⟩
                  go_region_held3 (fun w' => w'.cell? ⟨gb, 0, none⟩ = some (.slice (some ad0) R.length c0) ∧ w'.cell? ⟨gb, 1, none⟩ = some (.slice (some ad1) E.length c1) ∧ w'.cell? (ad1.add (e * 6)) = some (.int .i64 pl) ∧ w'.cell? (ad0.add (pl.toNat * 2)) = some (.int .i64 r0) ∧ w'.cell? ⟨(ad0.add (pl.toNat * 2)).block, (ad0.add (pl.toNat * 2)).off + 1, none⟩ = some (.int .i64 r1)) ((first | exact hS0 | go_keep)) ((first
                    | fail))
                  clear hS0 s1 s2 s3 s4 s5 ne0 ne1 ne2 ne3 ne4
                  have HXr : Aside0 ((V0.alloc (Obj.cells #[Value.int .i64 r0, .int .i64 r1] 42)).drew.heap[V0.heap.size]? = some (.cells #[.int .i64 r0, .int .i64 r1] 42 (0, 0))) := ⟨blk_drew (blk_new V0 _)⟩
                  have T3 := Aside0.mk (T.out.below (below_drew1 (below_alloc (Below.refl _ V0) (Obj.cells #[Value.int .i64 r0, .int .i64 r1] 42))))
                  clear T HBT
                  go_wp2_with fail
                  generalize V0.heap.size = hr at HXr ⊢
                  generalize (V0.alloc (Obj.cells #[Value.int .i64 r0, .int .i64 r1] 42)).drew = V3 at HXr T3 ⊢
                  have x7e := relt T3.out.tk e (by have := HLt.out; omega)
                  have x7f := relt T3.out.tk f (by have := HLt.out; omega)
                  go_quiet (fail)
                  have T4 := Aside0.mk (T3.out.below (pw_below_drewN (Below.refl _ V3) nq))
                  have HX4 := Aside0.mk (blk_below HXr.out (pw_below_drewN (Below.refl _ V3) nq))
                  go_wp2_with fail
                  clear T3 HXr x7e x7f
                  generalize V3.drewN nq = V4 at T4 HX4 ⊢
                  generalize wrap64 (rd ts (e : Int) - rd ts (f : Int)) = x at HX HPO HPAIR ⊢
                  have HUP := Aside0.mk (up_same (n := x) (f := r1) HX.out.1 (by have := HX.out; omega) (by have := HRR.out; omega) (by have := HRR.out; omega))
                  have HLb : Aside0 ((bs0 ++ prAll R E fs ts e ++ prRow R E fs ts e (f - (e + 1))).length ≤ 30000) := ⟨by
                    have h1 := HL0.out
                    have h2 := prAll_len R E fs ts e hE
                    have h3 := prRow_len R E fs ts e (f - (e + 1))
                    simp only [List.length_append]
                    omega⟩
                  have NE5 : Aside0 (some hr ≠ u3.ownBlock) := ⟨fun h => by obtain ⟨cs, hc⟩ := Kd.R_typed T4.out.out.1 hr h.symm; rw [HX4.out] at hc; injection hc with hc; injection hc with _ hc; exact absurd hc (by decide)⟩
                  have hS0 : V4.cell? ⟨hr, 0, none⟩ = some (.int .i64 r0) ∧ V4.cell? ⟨hr, 1, none⟩ = some (.int .i64 r1) := ⟨(blk_cell HX4.out 0).trans rfl, (blk_cell HX4.out 1).trans rfl⟩
                  go_region_held3 (fun w' => w'.cell? ⟨hr, 0, none⟩ = some (.int .i64 r0) ∧ w'.cell? ⟨hr, 1, none⟩ = some (.int .i64 r1)) ((first | exact hS0 | exact hS1 | exact hS1a | exact hS5)) ((first
                    | (go_at_call 76; refine (rf_up.calls _ _ _ _ HUP.out).mono ?_; rintro e9 w9 ⟨rfl, hdr⟩; have hb9 := hdr.below; have T9 := Aside0.mk ((T4.out.below (below_drew1 (Below.refl _ V4))).below hb9); have TL := Aside0.mk (T9.out.below (below_alloc (Below.refl _ w9) (.cells #[.int .i64 (f : Int), .int .i64 (e : Int), .int .i64 (IntKind.i64.wrap (Int.tdiv x r0)), .int .i64 (e : Int), .int .i64 (f : Int), .int .i64 (IntKind.i64.wrap (-(upR x r1)))] 27))); have HLx : Aside0 ((w9.alloc (.cells #[.int .i64 (f : Int), .int .i64 (e : Int), .int .i64 (IntKind.i64.wrap (Int.tdiv x r0)), .int .i64 (e : Int), .int .i64 (f : Int), .int .i64 (IntKind.i64.wrap (-(upR x r1)))] 27)).heap[w9.heap.size]? = some (.cells #[.int .i64 (f : Int), .int .i64 (e : Int), .int .i64 (wrap64 (Int.tdiv x r0)), .int .i64 (e : Int), .int .i64 (f : Int), .int .i64 (wrap64 (-(upR x r1)))] 27 (0, 0))) := ⟨by simp only [i64_w]; exact blk_new w9 _⟩; have hS1 : w9.cell? ⟨hr, 0, none⟩ = some (.int .i64 r0) ∧ w9.cell? ⟨hr, 1, none⟩ = some (.int .i64 r1) := ⟨(hb9.cell (World.block_lt_of_cell? _ _ hS0.1)).trans hS0.1, (hb9.cell (World.block_lt_of_cell? _ _ hS0.2)).trans hS0.2⟩; have hS1a : (w9.alloc (.cells #[.int .i64 (f : Int), .int .i64 (e : Int), .int .i64 (IntKind.i64.wrap (Int.tdiv x r0)), .int .i64 (e : Int), .int .i64 (f : Int), .int .i64 (IntKind.i64.wrap (-(upR x r1)))] 27)).cell? ⟨hr, 0, none⟩ = some (.int .i64 r0) ∧ (w9.alloc (.cells #[.int .i64 (f : Int), .int .i64 (e : Int), .int .i64 (IntKind.i64.wrap (Int.tdiv x r0)), .int .i64 (e : Int), .int .i64 (f : Int), .int .i64 (IntKind.i64.wrap (-(upR x r1)))] 27)).cell? ⟨hr, 1, none⟩ = some (.int .i64 r1) := ⟨((below_alloc (Below.refl _ w9) (.cells #[.int .i64 (f : Int), .int .i64 (e : Int), .int .i64 (IntKind.i64.wrap (Int.tdiv x r0)), .int .i64 (e : Int), .int .i64 (f : Int), .int .i64 (IntKind.i64.wrap (-(upR x r1)))] 27)).cell (World.block_lt_of_cell? _ _ hS1.1)).trans hS1.1, ((below_alloc (Below.refl _ w9) (.cells #[.int .i64 (f : Int), .int .i64 (e : Int), .int .i64 (IntKind.i64.wrap (Int.tdiv x r0)), .int .i64 (e : Int), .int .i64 (f : Int), .int .i64 (IntKind.i64.wrap (-(upR x r1)))] 27)).cell (World.block_lt_of_cell? _ _ hS1.2)).trans hS1.2⟩; clear hdr)
                    | (refine out_append_step (w := w2) (by rfl) (.tmp 122) (.tmp 138) rfl u3 _ (bs0 ++ prAll R E fs ts e ++ prRow R E fs ts e (f - (e + 1))) [(⟨(f : Int), (e : Int), wrap64 (Int.tdiv x r0)⟩ : S27), (⟨(e : Int), (f : Int), wrap64 (-(upR x r1))⟩ : S27)] rfl rfl TL.out.out (litC2 (p := (⟨(f : Int), (e : Int), wrap64 (Int.tdiv x r0)⟩ : S27)) (q := (⟨(e : Int), (f : Int), wrap64 (-(upR x r1))⟩ : S27)) HLx.out) (by have := HLb.out; simp only [List.length_cons, List.length_nil]; omega) ?_; intro v5 w5 hT5 hg5; have T5 := Aside0.mk (TL.out.append hT5 hg5); have HX5 := Aside0.mk (blk_grown (blk_alloc (blk_below HX4.out (below_step (below_drew1 (Below.refl _ V4)) hb9)) _) hg5 NE5.out); have hS5 : w5.cell? ⟨hr, 0, none⟩ = some (.int .i64 r0) ∧ w5.cell? ⟨hr, 1, none⟩ = some (.int .i64 r1) := ⟨(blk_cell HX5.out 0).trans rfl, (blk_cell HX5.out 1).trans rfl⟩; clear hT5 hg5)))
                  go_wp2_with fail
                  go_roundw
                  case rel => exact ⟨f + 1, by go_num, by omega, ⟨by rw [HW.out, HPO.out, HPAIR.out, ← List.append_assoc]; exact T5.out⟩⟩
                  case measure => simp [intOf]; omega
                · have hswb : decide (rd ts (f : Int) < rd ts (e : Int)) = false := by simpa using hsw
                  have hpo : pairOne R E fs ts e f = pairAB R E (wrap64 (rd ts (f : Int) - rd ts (e : Int))) e e f := by unfold pairOne; rw [if_pos HF.out, if_neg hsw]
                  have te := HTS.out e (by omega)
                  have tf := HTS.out f (by omega)
                  have hxx : wrap64 (rd ts (f : Int) - rd ts (e : Int)) = rd ts (f : Int) - rd ts (e : Int) := wrap64_id' _ (by omega) (by omega)
                  have hx0 : 0 ≤ wrap64 (rd ts (f : Int) - rd ts (e : Int)) ∧ wrap64 (rd ts (f : Int) - rd ts (e : Int)) ≤ 100000000000000 := by rw [hxx]; omega
                  have HX := Aside0.mk hx0
                  have HPO := Aside0.mk hpo
                  clear hsw hpo hxx hx0 te tf
                  go_quiet (fail)
                  have T := Aside0.mk (T1.out.below (pw_below_drewN (Below.refl _ V1) nq))
                  go_wp2_with fail
                  clear T1 x7e x7f hswb
                  generalize V1.drewN nq = V0 at T ⊢
                  obtain ⟨pc0, pc1⟩ := PC.out _ T.out.out.2
                  obtain ⟨_, eq1, s4, _⟩ := at_T80 HR1.out (e : Int) (by omega) (by omega)
                  cases eq1
                  have HBT := Aside0.mk (below_step HB.out T.out.out.2)
                  replace s4 := (HBT.out.cell (World.block_lt_of_cell? w _ s4)).trans s4
                  simp only [Int.toNat_natCast] at s4
                  obtain ⟨pl0, pl1⟩ := HK.out.place e helt
                  obtain ⟨hr1, hr2, hr3⟩ := HK.out.rates _ pl0 pl1
                  obtain ⟨_, eq2, s5, s6⟩ := at_T42 HR0.out _ pl0 pl1
                  cases eq2
                  replace s5 := (HBT.out.cell (World.block_lt_of_cell? w _ s5)).trans s5
                  replace s6 := (HBT.out.cell (World.block_lt_of_cell? w _ s6)).trans s6
                  have HPL : Aside0 (∃ p r q, p = (rd_T80 E (e : Int)).f0 ∧ r = (rd_T42 R p).f0 ∧ q = (rd_T42 R p).f1) := ⟨_, _, _, rfl, rfl, rfl⟩
                  obtain ⟨pl, r0, r1, hpl, hr0', hr1'⟩ := HPL.out
                  clear HPL
                  rw [← hpl] at s4 s5 s6 pl0 pl1 hr1 hr2 hr3
                  rw [← hr0'] at s5 hr1 hr2
                  rw [← hr1'] at s6 hr2 hr3
                  have hpair : pairAB R E (wrap64 (rd ts (f : Int) - rd ts (e : Int))) e e f = [⟨(e : Int), (f : Int), wrap64 (Int.tdiv (wrap64 (rd ts (f : Int) - rd ts (e : Int))) r0)⟩, ⟨(f : Int), (e : Int), wrap64 (-(upR (wrap64 (rd ts (f : Int) - rd ts (e : Int))) r1))⟩] := by unfold pairAB; rw [← hpl, ← hr0', ← hr1']
                  have HPAIR := Aside0.mk hpair
                  have HRR : Aside0 (1 ≤ r0 ∧ r0 ≤ r1 ∧ r1 ≤ 1000000) := ⟨⟨hr1, hr2, hr3⟩⟩
                  have hrz : r0 ≠ 0 := by omega
                  clear hpair hpl hr0' hr1' hr1 hr2 hr3
                  have hS0 : V0.cell? ⟨gb, 0, none⟩ = some (.slice (some ad0) R.length c0) ∧ V0.cell? ⟨gb, 1, none⟩ = some (.slice (some ad1) E.length c1) ∧ V0.cell? (ad1.add (e * 6)) = some (.int .i64 pl) ∧ V0.cell? (ad0.add (pl.toNat * 2)) = some (.int .i64 r0) ∧ V0.cell? ⟨(ad0.add (pl.toNat * 2)).block, (ad0.add (pl.toNat * 2)).off + 1, none⟩ = some (.int .i64 r1) := ⟨pc0, pc1, s4, s5, s6⟩
                  clear pc0 pc1 s4 s5 s6
                  have ne0 := World.new_ne V0 _ hS0.1
                  have ne1 := World.new_ne V0 _ hS0.2.1
                  have ne2 := World.new_ne V0 _ hS0.2.2.1
                  have ne3 := World.new_ne V0 _ hS0.2.2.2.1
                  have ne4 := World.new_ne V0 _ hS0.2.2.2.2
                  obtain ⟨s1, s2, s3, s4, s5⟩ := hS0
                  have hS0 : V0.cell? ⟨gb, 0, none⟩ = some (.slice (some ad0) R.length c0) ∧ V0.cell? ⟨gb, 1, none⟩ = some (.slice (some ad1) E.length c1) ∧ V0.cell? (ad1.add (e * 6)) = some (.int .i64 pl) ∧ V0.cell? (ad0.add (pl.toNat * 2)) = some (.int .i64 r0) ∧ V0.cell? ⟨(ad0.add (pl.toNat * 2)).block, (ad0.add (pl.toNat * 2)).off + 1, none⟩ = some (.int .i64 r1) := ⟨s1, s2, s3, s4, s5⟩
                  go_region_held3 (fun w' => w'.cell? ⟨gb, 0, none⟩ = some (.slice (some ad0) R.length c0) ∧ w'.cell? ⟨gb, 1, none⟩ = some (.slice (some ad1) E.length c1) ∧ w'.cell? (ad1.add (e * 6)) = some (.int .i64 pl) ∧ w'.cell? (ad0.add (pl.toNat * 2)) = some (.int .i64 r0) ∧ w'.cell? ⟨(ad0.add (pl.toNat * 2)).block, (ad0.add (pl.toNat * 2)).off + 1, none⟩ = some (.int .i64 r1)) ((first | exact hS0 | go_keep)) ((first
                    | fail))
                  clear hS0 s1 s2 s3 s4 s5 ne0 ne1 ne2 ne3 ne4
                  have HXr : Aside0 ((V0.alloc (Obj.cells #[Value.int .i64 r0, .int .i64 r1] 42)).drew.heap[V0.heap.size]? = some (.cells #[.int .i64 r0, .int .i64 r1] 42 (0, 0))) := ⟨blk_drew (blk_new V0 _)⟩
                  have T3 := Aside0.mk (T.out.below (below_drew1 (below_alloc (Below.refl _ V0) (Obj.cells #[Value.int .i64 r0, .int .i64 r1] 42))))
                  clear T HBT
                  go_wp2_with fail
                  generalize V0.heap.size = hr at HXr ⊢
                  generalize (V0.alloc (Obj.cells #[Value.int .i64 r0, .int .i64 r1] 42)).drew = V3 at HXr T3 ⊢
                  have x7e := relt T3.out.tk e (by have := HLt.out; omega)
                  have x7f := relt T3.out.tk f (by have := HLt.out; omega)
                  go_quiet (fail)
                  have T4 := Aside0.mk (T3.out.below (pw_below_drewN (Below.refl _ V3) nq))
                  have HX4 := Aside0.mk (blk_below HXr.out (pw_below_drewN (Below.refl _ V3) nq))
                  go_wp2_with fail
                  clear T3 HXr x7e x7f
                  generalize V3.drewN nq = V4 at T4 HX4 ⊢
                  generalize wrap64 (rd ts (f : Int) - rd ts (e : Int)) = x at HX HPO HPAIR ⊢
                  have HUP := Aside0.mk (up_same (n := x) (f := r1) HX.out.1 (by have := HX.out; omega) (by have := HRR.out; omega) (by have := HRR.out; omega))
                  have HLb : Aside0 ((bs0 ++ prAll R E fs ts e ++ prRow R E fs ts e (f - (e + 1))).length ≤ 30000) := ⟨by
                    have h1 := HL0.out
                    have h2 := prAll_len R E fs ts e hE
                    have h3 := prRow_len R E fs ts e (f - (e + 1))
                    simp only [List.length_append]
                    omega⟩
                  have NE5 : Aside0 (some hr ≠ u3.ownBlock) := ⟨fun h => by obtain ⟨cs, hc⟩ := Kd.R_typed T4.out.out.1 hr h.symm; rw [HX4.out] at hc; injection hc with hc; injection hc with _ hc; exact absurd hc (by decide)⟩
                  have hS0 : V4.cell? ⟨hr, 0, none⟩ = some (.int .i64 r0) ∧ V4.cell? ⟨hr, 1, none⟩ = some (.int .i64 r1) := ⟨(blk_cell HX4.out 0).trans rfl, (blk_cell HX4.out 1).trans rfl⟩
                  go_region_held3 (fun w' => w'.cell? ⟨hr, 0, none⟩ = some (.int .i64 r0) ∧ w'.cell? ⟨hr, 1, none⟩ = some (.int .i64 r1)) ((first | exact hS0 | exact hS1 | exact hS1a | exact hS5)) ((first
                    | (go_at_call 76; refine (rf_up.calls _ _ _ _ HUP.out).mono ?_; rintro e9 w9 ⟨rfl, hdr⟩; have hb9 := hdr.below; have T9 := Aside0.mk ((T4.out.below (below_drew1 (Below.refl _ V4))).below hb9); have TL := Aside0.mk (T9.out.below (below_alloc (Below.refl _ w9) (.cells #[.int .i64 (e : Int), .int .i64 (f : Int), .int .i64 (IntKind.i64.wrap (Int.tdiv x r0)), .int .i64 (f : Int), .int .i64 (e : Int), .int .i64 (IntKind.i64.wrap (-(upR x r1)))] 27))); have HLx : Aside0 ((w9.alloc (.cells #[.int .i64 (e : Int), .int .i64 (f : Int), .int .i64 (IntKind.i64.wrap (Int.tdiv x r0)), .int .i64 (f : Int), .int .i64 (e : Int), .int .i64 (IntKind.i64.wrap (-(upR x r1)))] 27)).heap[w9.heap.size]? = some (.cells #[.int .i64 (e : Int), .int .i64 (f : Int), .int .i64 (wrap64 (Int.tdiv x r0)), .int .i64 (f : Int), .int .i64 (e : Int), .int .i64 (wrap64 (-(upR x r1)))] 27 (0, 0))) := ⟨by simp only [i64_w]; exact blk_new w9 _⟩; have hS1 : w9.cell? ⟨hr, 0, none⟩ = some (.int .i64 r0) ∧ w9.cell? ⟨hr, 1, none⟩ = some (.int .i64 r1) := ⟨(hb9.cell (World.block_lt_of_cell? _ _ hS0.1)).trans hS0.1, (hb9.cell (World.block_lt_of_cell? _ _ hS0.2)).trans hS0.2⟩; have hS1a : (w9.alloc (.cells #[.int .i64 (e : Int), .int .i64 (f : Int), .int .i64 (IntKind.i64.wrap (Int.tdiv x r0)), .int .i64 (f : Int), .int .i64 (e : Int), .int .i64 (IntKind.i64.wrap (-(upR x r1)))] 27)).cell? ⟨hr, 0, none⟩ = some (.int .i64 r0) ∧ (w9.alloc (.cells #[.int .i64 (e : Int), .int .i64 (f : Int), .int .i64 (IntKind.i64.wrap (Int.tdiv x r0)), .int .i64 (f : Int), .int .i64 (e : Int), .int .i64 (IntKind.i64.wrap (-(upR x r1)))] 27)).cell? ⟨hr, 1, none⟩ = some (.int .i64 r1) := ⟨((below_alloc (Below.refl _ w9) (.cells #[.int .i64 (e : Int), .int .i64 (f : Int), .int .i64 (IntKind.i64.wrap (Int.tdiv x r0)), .int .i64 (f : Int), .int .i64 (e : Int), .int .i64 (IntKind.i64.wrap (-(upR x r1)))] 27)).cell (World.block_lt_of_cell? _ _ hS1.1)).trans hS1.1, ((below_alloc (Below.refl _ w9) (.cells #[.int .i64 (e : Int), .int .i64 (f : Int), .int .i64 (IntKind.i64.wrap (Int.tdiv x r0)), .int .i64 (f : Int), .int .i64 (e : Int), .int .i64 (IntKind.i64.wrap (-(upR x r1)))] 27)).cell (World.block_lt_of_cell? _ _ hS1.2)).trans hS1.2⟩; clear hdr)
                    | (refine out_append_step (w := w2) (by rfl) (.tmp 122) (.tmp 138) rfl u3 _ (bs0 ++ prAll R E fs ts e ++ prRow R E fs ts e (f - (e + 1))) [(⟨(e : Int), (f : Int), wrap64 (Int.tdiv x r0)⟩ : S27), (⟨(f : Int), (e : Int), wrap64 (-(upR x r1))⟩ : S27)] rfl rfl TL.out.out (litC2 (p := (⟨(e : Int), (f : Int), wrap64 (Int.tdiv x r0)⟩ : S27)) (q := (⟨(f : Int), (e : Int), wrap64 (-(upR x r1))⟩ : S27)) HLx.out) (by have := HLb.out; simp only [List.length_cons, List.length_nil]; omega) ?_; intro v5 w5 hT5 hg5; have T5 := Aside0.mk (TL.out.append hT5 hg5); have HX5 := Aside0.mk (blk_grown (blk_alloc (blk_below HX4.out (below_step (below_drew1 (Below.refl _ V4)) hb9)) _) hg5 NE5.out); have hS5 : w5.cell? ⟨hr, 0, none⟩ = some (.int .i64 r0) ∧ w5.cell? ⟨hr, 1, none⟩ = some (.int .i64 r1) := ⟨(blk_cell HX5.out 0).trans rfl, (blk_cell HX5.out 1).trans rfl⟩; clear hT5 hg5)))
                  go_wp2_with fail
                  go_roundw
                  case rel => exact ⟨f + 1, by go_num, by omega, ⟨by rw [HW.out, HPO.out, HPAIR.out, ← List.append_assoc]; exact T5.out⟩⟩
                  case measure => simp [intOf]; omega
              · have hfrb : ((rd fs (e : Int)) != (rd fs (f : Int))) = true := by simpa using hfr
                have hpo : pairOne R E fs ts e f = [] := by unfold pairOne; rw [if_neg hfr]
                have HPO := Aside0.mk hpo
                clear hfr hpo
                go_wp2_with fail
                go_quiet (fail)
                go_wp2_with fail
                go_roundw
                case rel => exact ⟨f + 1, by go_num, by omega, ⟨by rw [HW.out, HPO.out, List.append_nil]; exact HT.out.below (pw_below_drewN (Below.refl _ _) _)⟩⟩
                case measure => simp [intOf]; omega
            · have hfltb : decide ((f : Int) < (E.length : Int)) = false := by simpa using hflt
              have hfe : f = E.length := by omega
              have HFE := Aside0.mk hfe
              clear hfe
              go_wp2_with fail
              go_roundw
              case rel => exact ⟨e + 1, by go_num, by omega, ⟨by rw [prAll_succ, ← List.append_assoc]; have := HT.out; rw [HFE.out] at this; exact this⟩⟩
              case measure => simp [intOf]; omega
        · have heltb : decide ((e : Int) < (E.length : Int)) = false := by simpa using helt
          have hee : e = E.length := by omega
          have HEE := Aside0.mk hee
          clear hee
          go_wp2_with fail
          clear pc0 pc1
          go_loopw [3, 14] (fun v3 v wr => ∃ k : Nat, v = .int .i64 (k : Int) ∧ (1 ≤ k ∧ k ≤ E.length) ∧ Aside0 (Out w2 wr v3 (bs0 ++ prAll R E fs ts E.length ++ lastBs (k - 1)))) (fun _ v _ => E.length - (intOf v).toNat)
          case atStart => exact ⟨1, rfl, by omega, ⟨by have := HT.out.out; rw [HEE.out] at this; simpa [lastBs] using this⟩⟩
          case round =>
            clear HT HEE
            obtain ⟨k, rfl, hk, HT⟩ := hrel
            obtain ⟨pc0, pc1⟩ := PC.out _ HT.out.2
            by_cases hklt : k < E.length
            · have hkltb : decide ((k : Int) < (E.length : Int)) = true := by simpa using hklt
              have hsub : k = (k - 1) + 1 := by omega
              have HW := Aside0.mk (show lastBs (k + 1 - 1) = lastBs (k - 1) ++ [⟨(k : Int), 0, 0⟩] from by have := lastBs_succ (k - 1); rw [← hsub] at this; simpa using this)
              have HLb : Aside0 ((bs0 ++ prAll R E fs ts E.length ++ lastBs (k - 1)).length ≤ 30000) := ⟨by
                have h1 := HL0.out
                have h2 := prAll_len R E fs ts E.length hE
                have h3 := lastBs_len (k - 1)
                simp only [List.length_append]
                omega⟩
              clear hsub
              go_wp2_with (at_builtin; refine out_append1 rfl _ _ rfl _ _ (⟨(k : Int), 0, 0⟩ : S27) rfl (by first | (go_simp; done) | (go_simp; rfl)) HT.out (by have := HLb.out; omega) ?_; intro v5 w5 hT5 hg5; have HO5 := Aside0.mk hT5; clear hT5 hg5)
              go_roundw
              case rel => exact ⟨k + 1, by go_num, by omega, ⟨by rw [HW.out, ← List.append_assoc]; exact HO5.out⟩⟩
              case measure => simp [intOf]; omega
            · have hkltb : decide ((k : Int) < (E.length : Int)) = false := by simpa using hklt
              have hke : k = E.length := by omega
              have HKE := Aside0.mk hke
              clear hke
              go_wp2_with fail
              go_ret
              refine ⟨_, rfl, ?_⟩
              have := HT.out
              rw [HKE.out, ← HG.out] at this
              exact ⟨Kd.R_lower this.1 HB.out.size, below_step HB.out this.2⟩
end Go.Proofs.Ytlfopemghafboaa.D
