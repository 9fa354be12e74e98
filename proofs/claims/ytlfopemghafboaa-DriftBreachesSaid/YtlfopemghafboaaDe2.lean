/- The contract of the reference's IsRun, by a walk through its code. No condition beyond each theorem's own hypotheses. -/
import Derived.Test.YtlfopemghafboaaDe1
namespace Go.Proofs.Ytlfopemghafboaa.D
open Go.RowKit Go.Proofs.YtlfopemghafboaaW.PrintWords Go.Proofs.YtlfopemghafboaaW.PrintLast Go.Proofs.YtlfopemghafboaaW.PrintMore
set_option linter.unusedVariables false
set_option linter.unusedSimpArgs false
theorem isRun_no_time {R : List S42} {E : List S80} {ts : List Int} (i : Nat) (hi : i < ts.length) (h : timeBad (rd ts (i : Int)) = true) : isRunB R E ts = false := by
  have hm : rd ts (i : Int) ∈ ts := by
    have e : rd ts (i : Int) = ts[i] := by simp [rd, List.getD_eq_getElem?_getD, List.getElem?_eq_getElem hi]
    rw [e]; exact List.getElem_mem hi
  have : ts.any timeBad = true := List.any_eq_true.2 ⟨_, hm, h⟩
  unfold isRunB
  rw [this]; simp
theorem isRun_no_bind {R : List S42} {E : List S80} {ts : List Int} (i : Nat) (hi : i < (bindsL R E).length) (h : bindBad ts (rd_T27 (bindsL R E) (i : Int)) = true) : isRunB R E ts = false := by
  have hm : rd_T27 (bindsL R E) (i : Int) ∈ bindsL R E := by
    have e : rd_T27 (bindsL R E) (i : Int) = (bindsL R E)[i] := by simp [rd_T27, List.getD_eq_getElem?_getD, List.getElem?_eq_getElem hi]
    rw [e]; exact List.getElem_mem hi
  have : (bindsL R E).any (bindBad ts) = true := List.any_eq_true.2 ⟨_, hm, h⟩
  unfold isRunB
  rw [this]; simp
theorem isRun_left {R : List S42} {E : List S80} {ts : List Int} (hl : ts.length = E.length) (h1 : ∀ j : Nat, j < ts.length → timeBad (rd ts (j : Int)) = false) (h2 : ∀ j : Nat, j < (bindsL R E).length → bindBad ts (rd_T27 (bindsL R E) (j : Int)) = false) : isRunB R E ts = (rd ts 0 == 0) := by
  have a1 : ts.any timeBad = false := by
    rw [List.any_eq_false]
    intro x hx
    obtain ⟨i, hi, rfl⟩ := List.getElem_of_mem hx
    have := h1 i hi
    rw [show rd ts (i : Int) = ts[i] by simp [rd, List.getD_eq_getElem?_getD, List.getElem?_eq_getElem hi]] at this
    simp [this]
  have a2 : (bindsL R E).any (bindBad ts) = false := by
    rw [List.any_eq_false]
    intro x hx
    obtain ⟨i, hi, rfl⟩ := List.getElem_of_mem hx
    have := h2 i hi
    rw [show rd_T27 (bindsL R E) (i : Int) = (bindsL R E)[i] by simp [rd_T27, List.getD_eq_getElem?_getD, List.getElem?_eq_getElem hi]] at this
    simp [this]
  unfold isRunB
  rw [a1, a2, decide_eq_true hl]
  simp
set_option maxHeartbeats 3200000 in
set_option maxRecDepth 100000 in
theorem rIsRun_any (R : List S42) (E : List S80) (A0 A1 A : Option Addr) (c0 c1 c : Nat) (ts : List Int) (w : World) (hr0 : Kd.C k42 w A0 R.length R) (hc0 : R.length ≤ c0) (hr1 : Kd.C k80 w A1 E.length E) (hc1 : E.length ≤ c1) (hl : Kd.C (Kd.int .i64) w A ts.length ts) (hK : PlanOK R E) :
    Calls Try.prog 32 #[.agg #[.slice A0 R.length c0, .slice A1 E.length c1], .slice A ts.length c] w fun e w' => e = .returned (.bool (isRunB R E ts)) ∧ Below w.heap.size w w' := by
  have HK := Aside0.mk hK
  have HR0 := Aside0.mk hr0
  have HR1 := Aside0.mk hr1
  have HC0 := Aside0.mk hc0
  have HC1 := Aside0.mk hc1
  have HL := Aside0.mk hl
  have hE := hK.len
  have hp := hK.pos
  clear hr0 hr1 hc0 hc1 hl hK
  by_cases hln : ts.length = E.length
  · have hlb : ((ts.length : Int) != (E.length : Int)) = false := by simp [hln]
    have hts : 0 < ts.length ∧ ts.length ≤ 100 := by omega
    have HLN := Aside0.mk hln
    clear hln
    go_enter Try.func32, Try.ntmps32
    go_wp2_with (first | ((with_reducible refine gate_dst (N := 2) rfl ?_); refine box_event ?hg (N := 2) ?hd (cs := #[.slice A0 R.length c0, .slice A1 E.length c1]) (t := 25) ?hr ?_; (case hd => rfl); (case hg => rfl); (case hr => first | (go_simp; done) | (go_simp; rfl)); intro gb hg w2 hbox hb; have HB := Aside0.mk hb; have BX := Aside0.mk hbox; have p0 : w2.cell? ⟨gb, 0, none⟩ = some (.slice A0 R.length c0) := (blk_cell hbox 0).trans rfl; have p1 : w2.cell? ⟨gb, 1, none⟩ = some (.slice A1 E.length c1) := (blk_cell hbox 1).trans rfl; clear hb hbox hg))
    clear p0 p1
    go_loopw [5] (fun v5 wr => ∃ i : Nat, v5 = .int .i64 (i : Int) ∧ (i ≤ ts.length ∧ ∀ j : Nat, j < i → timeBad (rd ts (j : Int)) = false) ∧ Aside0 (Below w2.heap.size w2 wr)) (fun v5 _ => ts.length - (intOf v5).toNat)
    case atStart => exact ⟨0, rfl, ⟨by omega, fun j hj => by omega⟩, ⟨Below.refl _ _⟩⟩
    case round =>
      obtain ⟨i, rfl, hi, HBR⟩ := hrel
      by_cases hlt : i < ts.length
      · have hltb : decide ((i : Int) < (ts.length : Int)) = true := by simpa using hlt
        obtain ⟨ad, eA, x0⟩ := Kd.at_int (Kd.C_below HL.out (below_step HB.out HBR.out)) (i : Int) (by omega) (by omega)
        cases eA
        simp only [Int.toNat_natCast] at x0
        have HNO := Aside0.mk (fun h => isRun_no_time (R := R) (E := E) (ts := ts) i hlt h)
        by_cases h1 : rd ts (i : Int) < 0
        · have h1b : decide (rd ts (i : Int) < 0) = true := by simpa using h1
          have hF : isRunB R E ts = false := HNO.out (by simp [timeBad, betweenB]; omega)
          have HF := Aside0.mk hF
          clear hF h1 hi
          go_wp2_with fail
          go_ret
          exact ⟨by rw [HF.out]; rfl, below_step HB.out HBR.out⟩
        · have h1b : decide (rd ts (i : Int) < 0) = false := by simpa using h1
          by_cases h2 : rd ts (i : Int) > 1000000000000000
          · have h2b : decide (rd ts (i : Int) > 1000000000000000) = true := by simpa using h2
            have hF : isRunB R E ts = false := HNO.out (by simp [timeBad, betweenB]; omega)
            have HF := Aside0.mk hF
            clear hF h1 h2 hi
            go_wp2_with fail
            go_ret
            exact ⟨by rw [HF.out]; rfl, below_step HB.out HBR.out⟩
          · have h2b : decide (rd ts (i : Int) > 1000000000000000) = false := by simpa using h2
            have HI : Aside0 (∀ j : Nat, j < i + 1 → timeBad (rd ts (j : Int)) = false) := ⟨fun j hj => by
              by_cases e : j = i
              · subst e; simp [timeBad, betweenB]; omega
              · exact hi.2 j (by omega)⟩
            clear h1 h2 hi
            go_wp2_with fail
            go_roundw
            case rel => exact ⟨i + 1, by go_num, ⟨by omega, HI.out⟩, HBR⟩
            case measure => simp [intOf]; omega
      · have hltb : decide ((i : Int) < (ts.length : Int)) = false := by simpa using hlt
        have HT : Aside0 (∀ j : Nat, j < ts.length → timeBad (rd ts (j : Int)) = false) := ⟨fun j hj => hi.2 j (by omega)⟩
        clear hi
        have p0 : wr.cell? ⟨gb, 0, none⟩ = some (.slice A0 R.length c0) := (blk_cell (blk_below BX.out HBR.out) 0).trans rfl
        have p1 : wr.cell? ⟨gb, 1, none⟩ = some (.slice A1 E.length c1) := (blk_cell (blk_below BX.out HBR.out) 1).trans rfl
        go_wp2_with (go_at_call 65; refine (rbinds_any R E A0 A1 c0 c1 _ (Kd.C_below HR0.out (below_step HB.out HBR.out)) HC0.out (Kd.C_below HR1.out (below_step HB.out HBR.out)) HC1.out HK.out).mono ?_; rintro e w3 ⟨v3, rfl, hO⟩; obtain ⟨A3, c3, e3, hc3, hC3⟩ := hO.reads; subst e3; have HO := Aside0.mk hO.2; have HC3 := Aside0.mk hC3; clear hO hC3 hc3 p0 p1)
        have HBI := Aside0.mk (bindsL_in HK.out)
        have HBN := Aside0.mk (bindsL_len HK.out)
        have HLF := Aside0.mk (fun h1 h2 => isRun_left (R := R) (E := E) HLN.out h1 h2)
        have HNB := Aside0.mk (fun i hi h => isRun_no_bind (R := R) (E := E) (ts := ts) i hi h)
        generalize bindsL R E = bs at HBI HBN HLF HNB HC3 ⊢
        have hbn : bs.length ≤ 21000 := HBN.out
        go_loopw [7] (fun v7 wr2 => ∃ k : Nat, v7 = .int .i64 (k : Int) ∧ (k ≤ bs.length ∧ ∀ j : Nat, j < k → bindBad ts (rd_T27 bs (j : Int)) = false) ∧ Aside0 (Below w3.heap.size w3 wr2)) (fun v7 _ => bs.length - (intOf v7).toNat)
        case atStart => exact ⟨0, rfl, ⟨by omega, fun j hj => by omega⟩, ⟨Below.refl _ _⟩⟩
        case round =>
          obtain ⟨wq, hwq⟩ : ∃ wq : World, wq = wr := ⟨_, rfl⟩
          obtain ⟨k, rfl, hk, HB3⟩ := hrel
          have HB4 := Aside0.mk (below_step (below_step HB.out HBR.out) (below_step HO.out HB3.out))
          by_cases hkt : k < bs.length
          · have hktb : decide ((k : Int) < (bs.length : Int)) = true := by simpa using hkt
            have hin : (0 ≤ (rd_T27 bs (k : Int)).f0 ∧ (rd_T27 bs (k : Int)).f0 < E.length) ∧ (0 ≤ (rd_T27 bs (k : Int)).f1 ∧ (rd_T27 bs (k : Int)).f1 < E.length) := in_rd HBI.out k hkt
            have hle := HLN.out
            have HNBk := Aside0.mk (HNB.out k hkt)
            obtain ⟨_, e1, a0, a1, a2⟩ := at_T27 (Kd.C_below HC3.out HB3.out) (k : Int) (by omega) (by omega)
            cases e1
            simp only [Int.toNat_natCast] at a0 a1 a2
            have HKB : Aside0 (∀ j : Nat, j < k → bindBad ts (rd_T27 bs (j : Int)) = false) := ⟨hk.2⟩
            have HBE : Aside0 (∃ b, b = rd_T27 bs (k : Int)) := ⟨_, rfl⟩
            obtain ⟨b, hb_⟩ := HBE.out
            have HEB := Aside0.mk hb_
            rw [← hb_] at a0 a1 a2 hin HNBk
            clear hb_ HBE hk
            obtain ⟨f0, f1, f2⟩ := b
            simp only at a0 a1 a2 hin
            obtain ⟨⟨i0, i1⟩, i2, i3⟩ := hin
            have j1 : f0 < (ts.length : Int) := by omega
            have j3 : f1 < (ts.length : Int) := by omega
            clear i1 i3 hle
            obtain ⟨_, e1, y0⟩ := Kd.at_int (Kd.C_below HL.out HB4.out) f0 i0 j1
            cases e1
            obtain ⟨_, e1, y1⟩ := Kd.at_int (Kd.C_below HL.out HB4.out) f1 i2 j3
            cases e1
            by_cases hbad : f2 < wrap64 (rd ts f1 - rd ts f0)
            · have hbb : decide (wrap64 (rd ts f1 - rd ts f0) > f2) = true := by simpa using hbad
              have hF : isRunB R E ts = false := HNBk.out (by simpa [bindBad] using hbad)
              have HF := Aside0.mk hF
              clear hF hbad
              go_wp2_with fail
              go_quiet (fail)
              have HB5 := Aside0.mk (below_step HB4.out (pw_below_drewN (Below.refl _ wr) nq))
              go_wp2_with fail
              go_ret
              exact ⟨by rw [HF.out]; rfl, HB5.out⟩
            · have hbb : decide (wrap64 (rd ts f1 - rd ts f0) > f2) = false := by simpa using hbad
              have HK2 : Aside0 (∀ j : Nat, j < k + 1 → bindBad ts (rd_T27 bs (j : Int)) = false) := ⟨fun j hj => by
                by_cases e : j = k
                · subst e; rw [← HEB.out]; simpa [bindBad] using hbad
                · exact HKB.out j (by omega)⟩
              clear hbad
              go_wp2_with fail
              go_quiet (fail)
              have HB5 := Aside0.mk (below_step HB3.out (pw_below_drewN (Below.refl _ wr) nq))
              go_wp2_with fail
              go_roundw
              case rel => exact ⟨k + 1, by go_num, ⟨by omega, HK2.out⟩, HB5⟩
              case measure => simp [intOf]; omega
          · have hktb : decide ((k : Int) < (bs.length : Int)) = false := by simpa using hkt
            have hA : isRunB R E ts = (rd ts 0 == 0) := HLF.out HT.out (fun j hj => hk.2 j (by omega))
            have HA := Aside0.mk hA
            clear hA hk
            obtain ⟨_, e1, y0⟩ := Kd.at_int (Kd.C_below HL.out HB4.out) 0 (by omega) (by omega)
            cases e1
            simp only [Int.toNat_zero, Addr.add_zero'] at y0
            have htp : (0 : Int) < (ts.length : Int) := by omega
            generalize hz : (rd ts 0 == 0) = z at HA
            go_wp2_with fail
            go_ret
            exact ⟨by rw [HA.out]; rfl, HB4.out⟩
  · have hlb : ((ts.length : Int) != (E.length : Int)) = true := by simp; omega
    have hF : isRunB R E ts = false := by unfold isRunB; rw [decide_eq_false hln]; simp
    rw [hF]
    clear hF hln
    go_enter Try.func32, Try.ntmps32
    go_wp2_with (first | ((with_reducible refine gate_dst (N := 2) rfl ?_); refine box_event ?hg (N := 2) ?hd (cs := #[.slice A0 R.length c0, .slice A1 E.length c1]) (t := 25) ?hr ?_; (case hd => rfl); (case hg => rfl); (case hr => first | (go_simp; done) | (go_simp; rfl)); intro gb hg w2 hbox hb; have HB := Aside0.mk hb; have BX := Aside0.mk hbox; have p0 : w2.cell? ⟨gb, 0, none⟩ = some (.slice A0 R.length c0) := (blk_cell hbox 0).trans rfl; have p1 : w2.cell? ⟨gb, 1, none⟩ = some (.slice A1 E.length c1) := (blk_cell hbox 1).trans rfl; clear hb hbox hg))
    go_ret
    exact ⟨rfl, HB.out⟩
end Go.Proofs.Ytlfopemghafboaa.D
