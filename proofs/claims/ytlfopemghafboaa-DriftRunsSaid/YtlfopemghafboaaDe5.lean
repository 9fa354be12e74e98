/- The contract of the reference's Ways, by a walk through its code. No condition beyond each theorem's own hypotheses. -/
import Derived.Test.YtlfopemghafboaaDe4
import Derived.Test.YtlfopemghafboaaDe1
namespace Go.Proofs.Ytlfopemghafboaa.D
open Go.RowKit Go.Proofs.YtlfopemghafboaaW.PrintWords Go.Proofs.YtlfopemghafboaaW.PrintLast Go.Proofs.YtlfopemghafboaaW.PrintMore
set_option linter.unusedVariables false
set_option linter.unusedSimpArgs false
theorem bindsL_ne {R : List S42} {E : List S80} (hK : PlanOK R E) (h24 : E.length ≤ 24) (i : Nat) (hi : i < (bindsL R E).length) : (rd_T27 (bindsL R E) (i : Int)).f0 ≠ (rd_T27 (bindsL R E) (i : Int)).f1 := by
  rcases (bindsL_cases _).1 (rd27_mem (bindsL R E) i hi) with ⟨x, hx, hb⟩ | ⟨e, f, he, hf, hb⟩ | ⟨x, h0, hx, hb⟩
  · generalize rd_T27 (bindsL R E) (i : Int) = b at hb ⊢
    unfold causeBs at hb
    split at hb
    · unfold firstBs at hb
      split at hb
      · cases hb
      · simp only [List.mem_cons, List.not_mem_nil, or_false] at hb
        rcases hb with rfl | rfl <;> simp <;> omega
    · split at hb
      · cases hb
      · rename_i h1 h2
        have h3 : (rd_T80 E (x : Int)).f1 = 3 := by have := hK.kind x hx; omega
        have := hK.ev3 x hx h3
        unfold postBs at hb
        simp only [List.mem_cons, List.not_mem_nil, or_false] at hb
        rcases hb with rfl | rfl <;> simp only <;> omega
  · rw [pairOne_val hK h24 e f (by omega) hf] at hb
    generalize rd_T27 (bindsL R E) (i : Int) = b at hb ⊢
    split at hb
    · split at hb <;> (simp only [List.mem_cons, List.not_mem_nil, or_false] at hb; rcases hb with rfl | rfl <;> simp only <;> omega)
    · cases hb
  · rw [hb]; simp only; omega
/-- What Ways tells: a circle, or the table of the least sums. -/
def WaysPost (l : List S27) (n : Nat) (w w' : World) (v : Value) (circ : Bool) : Prop := (circ = true ∧ v = .slice none 0 0 ∧ NegC l n) ∨ (circ = false ∧ ∃ g c m, v = .slice (some ⟨g, 0, none⟩) n c ∧ WMat w w' n g c m ∧ FW l n n (mv m))
theorem WMat.lift {w0 w1 W : World} {n g c : Nat} {m : List (List Int)} (h : WMat w1 W n g c m) (hb : Below w0.heap.size w0 w1) : WMat w0 W n g c m := ⟨Kd.S_lower h.s hb.size, h.len, h.row, below_step hb h.bel⟩
set_option maxHeartbeats 6400000 in
set_option maxRecDepth 100000 in
theorem rways_any (R : List S42) (E : List S80) (A0 A1 : Option Addr) (c0 c1 : Nat) (w : World) (hr0 : Kd.C k42 w A0 R.length R) (hc0 : R.length ≤ c0) (hr1 : Kd.C k80 w A1 E.length E) (hc1 : E.length ≤ c1) (hK : PlanOK R E) (h24 : E.length ≤ 24) :
    Calls Try.prog 63 #[.agg #[.slice A0 R.length c0, .slice A1 E.length c1]] w fun e w' => ∃ v circ, e = .returned (.tuple #[v, .bool circ]) ∧ Below w.heap.size w w' ∧ WaysPost (bindsL R E) E.length w w' v circ := by
  have HK := Aside0.mk hK
  have HR0 := Aside0.mk hr0
  have HR1 := Aside0.mk hr1
  have HC0 := Aside0.mk hc0
  have HC1 := Aside0.mk hc1
  have hp := hK.pos
  have h24' := h24
  have HOK := Aside0.mk (bindsL_ok0 hK h24)
  have HNE := Aside0.mk (bindsL_ne hK h24)
  have HBN := Aside0.mk (bindsL_len hK)
  clear hr0 hr1 hc0 hc1 hK
  go_enter Try.func63, Try.ntmps63
  go_wp2_with (first | ((with_reducible refine gate_dst (N := 1) rfl ?_); refine box_event ?hg (N := 1) ?hd (cs := #[.slice A0 R.length c0, .slice A1 E.length c1]) (t := 25) ?hr ?_; (case hd => rfl); (case hg => rfl); (case hr => first | (go_simp; done) | (go_simp; rfl)); intro gb hg w2 hbox hb; have HB := Aside0.mk hb; have BX := Aside0.mk hbox; have p1 : w2.cell? ⟨gb, 1, none⟩ = some (.slice A1 E.length c1) := (blk_cell hbox 1).trans rfl; clear hb hbox hg))
  clear p1
  go_loopw [5, 6] (fun v5 v6 wr => ∃ i : Nat, v6 = .int .i64 (i : Int) ∧ i ≤ E.length ∧ Aside0 (Kd.S (Kd.slice 3 (Kd.int .i64)) 28 wr w2.heap.size (fun _ => True) v5 (rows0 E.length i) ∧ Below w2.heap.size w2 wr)) (fun _ v6 _ => E.length - (intOf v6).toNat)
  case atStart => exact ⟨0, rfl, by omega, ⟨Kd.S_nil _ _ _ _ _, Below.refl _ _⟩⟩
  case round =>
    obtain ⟨i, rfl, hi, HS⟩ := hrel
    by_cases hlt : i < E.length
    · have hltb : decide ((i : Int) < (E.length : Int)) = true := by simpa using hlt
      obtain ⟨wo, hwo⟩ : ∃ wo : World, wo = wr := ⟨_, rfl⟩
      subst hwo
      go_wp2_with fail
      go_loopw [7, 8] (fun v7 v8 wr2 => ∃ k : Nat, v8 = .int .i64 (k : Int) ∧ k ≤ E.length ∧ Aside0 (WLay w2 wr2 E.length i k u5 v7)) (fun _ v8 _ => E.length - (intOf v8).toNat)
      case atStart => exact ⟨0, rfl, by omega, ⟨wlay_start HS.out.1 HS.out.2⟩⟩
      case round =>
        clear HS
        obtain ⟨k, rfl, hk, HL⟩ := hrel
        by_cases hkt : k < E.length
        · have hktb : decide ((k : Int) < (E.length : Int)) = true := by simpa using hkt
          by_cases e : i = k
          · have eb : ((i : Int) == (k : Int)) = true := by simp [e]
            have HV : Aside0 ((0 : Int) = if i = k then 0 else noW) := ⟨by rw [if_pos e]⟩
            clear e
            go_wp2_with (at_builtin; refine wlay_append (w0 := w2) (n := E.length) (i := i) (k := k) (v5 := u5) (v7 := u7) rfl (.tmp 31) (.tmp 32) rfl 0 HV.out rfl rfl HL.out (by omega) ?_; intro v1 w1 hL; have HL2 := Aside0.mk hL; clear hL)
            go_roundw
            case rel => exact ⟨k + 1, by go_num, by omega, HL2⟩
            case measure => simp [intOf]; omega
          · have eb : ((i : Int) == (k : Int)) = false := by simp; omega
            have HV : Aside0 ((4000000000000000 : Int) = if i = k then 0 else noW) := ⟨by rw [if_neg e]; rfl⟩
            clear e
            go_wp2_with (at_builtin; refine wlay_append (w0 := w2) (n := E.length) (i := i) (k := k) (v5 := u5) (v7 := u7) rfl (.tmp 34) (.tmp 35) rfl 4000000000000000 HV.out rfl rfl HL.out (by omega) ?_; intro v1 w1 hL; have HL2 := Aside0.mk hL; clear hL)
            go_roundw
            case rel => exact ⟨k + 1, by go_num, by omega, HL2⟩
            case measure => simp [intOf]; omega
        · have hktb : decide ((k : Int) < (E.length : Int)) = false := by simpa using hkt
          obtain rfl : k = E.length := by omega
          obtain ⟨B, d, e7, _, _⟩ := Kd.R_reads HL.out.r
          rw [row0_len] at e7
          subst e7
          have HL1 : Aside0 (WLay w2 wr E.length i E.length u5 (.slice B E.length d)) := HL
          clear HL hkt hk
          go_wp2_with (at_builtin; refine wlay_append_row (w0 := w2) (n := E.length) (i := i) (v5 := u5) rfl (.tmp 37) (.tmp 39) rfl rfl rfl HL1.out (by omega) ?_; intro v1 w1 hS hb; have HS2 := Aside0.mk (And.intro hS hb); clear hS hb)
          go_roundw
          case rel => exact ⟨i + 1, by go_num, by omega, HS2⟩
          case measure => simp [intOf]; omega
    · have hltb : decide ((i : Int) < (E.length : Int)) = false := by simpa using hlt
      obtain rfl : i = E.length := by omega
      clear hlt hi
      obtain ⟨g, c, e5, hWM⟩ := wmat_start hp HS.out.1 HS.out.2
      subst e5
      have HWM := Aside0.mk hWM
      have BXr := Aside0.mk (blk_below BX.out HS.out.2)
      have HBr := Aside0.mk (below_step HB.out HS.out.2)
      have p0 : wr.cell? ⟨gb, 0, none⟩ = some (.slice A0 R.length c0) := (blk_cell BXr.out 0).trans rfl
      have p1 : wr.cell? ⟨gb, 1, none⟩ = some (.slice A1 E.length c1) := (blk_cell BXr.out 1).trans rfl
      clear hWM HS
      go_wp2_with (first
        | (go_at_call 65; refine (rbinds_any R E A0 A1 c0 c1 _ (Kd.C_below HR0.out HBr.out) HC0.out (Kd.C_below HR1.out HBr.out) HC1.out HK.out).mono ?_; rintro e w3 ⟨v3, rfl, hO⟩; obtain ⟨A3, c3, e3, hc3, hC3⟩ := hO.reads; subst e3; have HBS := Aside0.mk (Kd.R_lower hO.1 HWM.out.bel.size); have HM3 := Aside0.mk (HWM.out.below hO.2); clear hO hC3 hc3 p0 p1))
      generalize hbs : bindsL R E = bs at HOK HNE HBN HBS ⊢
      have HBE := Aside0.mk hbs
      clear hbs
      have hbn : bs.length ≤ 21000 := HBN.out
      have HF0 := Aside0.mk (FW0.start bs E.length (mv (rows0 E.length E.length)) (fun a b ha hb => by
        obtain ⟨x, rfl⟩ : ∃ x : Nat, a = x := ⟨a.toNat, by omega⟩
        obtain ⟨y, rfl⟩ : ∃ y : Nat, b = y := ⟨b.toNat, by omega⟩
        rw [mv_rows0 _ x y (by omega) (by omega)]
        by_cases e : x = y
        · subst e; rw [if_pos rfl, if_pos rfl]
        · rw [if_neg e, if_neg (by omega)]))
      go_loopw [10] (fun v10 wr2 => ∃ (t : Nat) (m : List (List Int)), v10 = .int .i64 (t : Int) ∧ t ≤ bs.length ∧ Aside0 (WMat w2 wr2 E.length g c m ∧ FW0 bs E.length t (mv m)) ∧ Aside0 (Kd.R k27 27 wr2 w2.heap.size (fun _ => True) (.slice A3 bs.length c3) bs)) (fun v10 _ => bs.length - (intOf v10).toNat)
      case atStart => exact ⟨0, _, rfl, by omega, ⟨HM3.out, HF0.out⟩, HBS⟩
      case round =>
        clear HWM BXr HBr HM3 HBS HF0
        obtain ⟨t, m, rfl, ht, HM, HBS⟩ := hrel
        by_cases htl : t < bs.length
        · have htb : decide ((t : Int) < (bs.length : Int)) = true := by simpa using htl
          have hin : (0 ≤ (rd_T27 bs (t : Int)).f0 ∧ (rd_T27 bs (t : Int)).f0 < E.length) ∧ (0 ≤ (rd_T27 bs (t : Int)).f1 ∧ (rd_T27 bs (t : Int)).f1 < E.length) := in_rd HOK.out.inb t htl
          have HST := Aside0.mk (HM.out.2.step HOK.out.bd HNE.out htl)
          obtain ⟨_, e1, a0, a1, a2⟩ := at_T27 (Kd.R_reads' HBS.out).2.2 (t : Int) (by omega) (by omega)
          cases e1
          simp only [Int.toNat_natCast] at a0 a1 a2
          generalize rd_T27 bs (t : Int) = b at a0 a1 a2 hin HST
          obtain ⟨f0, f1, f2⟩ := b
          simp only at a0 a1 a2 hin
          obtain ⟨⟨i0, i1⟩, i2, i3⟩ := hin
          obtain ⟨x, rfl⟩ : ∃ x : Nat, f0 = x := ⟨f0.toNat, by omega⟩
          obtain ⟨y, rfl⟩ : ∃ y : Nat, f1 = y := ⟨f1.toNat, by omega⟩
          have hx : x < E.length := by omega
          have hy : y < E.length := by omega
          obtain ⟨bk, dk, k0, ⟨kc, kt⟩, kf⟩ := HM.out.1.at x hx
          obtain ⟨k1, k2, k3⟩ := kf y hy
          have KS := Aside0.mk (k3 f2)
          have KT := Aside0.mk kt
          have HSTv := HST.out
          simp only at HSTv
          have ht0 : (0 : Int) ≤ (t : Int) := by omega
          have ht1 : (t : Int) < (bs.length : Int) := by omega
          have HZ := Aside0.mk (mv_put HM.out.1.len HM.out.1.row x y hx hy f2)
          clear kf k3 kt
          by_cases hc : f2 < mv m (x : Int) (y : Int)
          · have hcb : decide (f2 < mv m (x : Int) (y : Int)) = true := by simpa using hc
            have HF1 := Aside0.mk (HSTv.1 hc)
            clear HSTv hc HST
            generalize mv m (x : Int) (y : Int) = z at k1 hcb
            go_wp2_with fail
            go_quiet (fail)
            have HM1 := Aside0.mk (HM.out.1.below (pw_below_drewN (Below.refl _ wr) nq))
            have HBS1 := Aside0.mk (Kd.R_drewN HBS.out nq)
            have HBD := Aside0.mk (Kd.R_drew HBS1.out)
            go_wp2_with fail
            clear k0 k1 k2 KS KT kc
            replace a0 : (wr.drewN nq).cell? _ = _ := a0
            replace a1 : (wr.drewN nq).cell? _ = _ := a1
            replace a2 : (wr.drewN nq).cell? _ = _ := a2
            generalize wr.drewN nq = V1 at HM1 HBS1 HBD a0 a1 a2 ⊢
            obtain ⟨bk, dk, k0, ⟨kc, kt⟩, kf⟩ := (HM1.out.below (below_drew1 (Below.refl _ V1))).at x hx
            obtain ⟨k1, k2, k3⟩ := kf y hy
            have KT := Aside0.mk kt
            have KS := Aside0.mk (k3 f2)
            replace k0 : V1.cell? _ = _ := k0
            clear kf kt k3
            go_still_tail 19, (by kernel_rfl)
            change wpList _ _ _ _ _ V1.drew
            generalize V1.drew = V2 at k1 k2 KT KS HBD ⊢
            clear k0 a0 a1 a2
            go_wp2_with fail
            have HBS2 := Aside0.mk (Kd.R_set HBD.out KT.out (by decide) y (.int .i64 f2))
            go_roundw
            case rel => exact ⟨t + 1, _, by go_num, by omega, ⟨KS.out, HF1.out.congr HOK.out.inb htl HZ.out⟩, HBS2⟩
            case measure => simp [intOf]; omega
          · have hcb : decide (f2 < mv m (x : Int) (y : Int)) = false := by simpa using hc
            have HF1 := Aside0.mk (HSTv.2 hc)
            clear HSTv hc HST
            generalize mv m (x : Int) (y : Int) = z at k1 hcb
            go_wp2_with fail
            go_quiet (fail)
            go_wp2_with fail
            go_roundw
            case rel => exact ⟨t + 1, m, by go_num, by omega, ⟨HM.out.1.below (pw_below_drewN (Below.refl _ wr) nq), HF1.out⟩, ⟨Kd.R_drewN HBS.out nq⟩⟩
            case measure => simp [intOf]; omega
        · have htb : decide ((t : Int) < (bs.length : Int)) = false := by simpa using htl
          obtain rfl : t = bs.length := by omega
          have HM2 : Aside0 (WMat w2 wr E.length g c m ∧ FW bs E.length ((0 : Nat) : Int) (mv m)) := ⟨HM.out.1, HM.out.2.done⟩
          clear HM HBS htl ht
          go_wp2_with fail
          go_loopw [11] (fun v11 wr2 => ∃ (k : Nat) (m : List (List Int)), v11 = .int .i64 (k : Int) ∧ k ≤ E.length ∧ Aside0 (WMat w2 wr2 E.length g c m ∧ FW bs E.length (k : Int) (mv m))) (fun v11 _ => E.length - (intOf v11).toNat)
          case atStart => exact ⟨0, _, rfl, by omega, HM2⟩
          case round =>
            clear HM2
            obtain ⟨k, m, rfl, hk, HM⟩ := hrel
            by_cases hkn : k < E.length
            · have hkb : decide ((k : Int) < (E.length : Int)) = true := by simpa using hkn
              have hk0 : (0 : Int) ≤ (k : Int) := by omega
              have hk1 : (k : Int) < (E.length : Int) := by omega
              have HDG := Aside0.mk (HM.out.2.diag (k : Int) hk0 hk1)
              have HBD := Aside0.mk (fun a b ha hb hd => HM.out.2.bound HOK.out.inb (by omega) h24 HOK.out.bd a b ha hb hd)
              have HRD := Aside0.mk (fun M hM => fw_round (M := M) HM.out.2 HOK.out.inb hkn h24 HOK.out.bd hM)
              generalize hD : mv m = D at HDG HBD HRD
              have HM3 : Aside0 (WMat w2 wr E.length g c m ∧ InW D E.length k 0 0 (mv m)) := ⟨HM.out.1, by rw [hD]; exact InW.start _ _ _⟩
              obtain ⟨wo, hwo⟩ : ∃ wo : World, wo = wr := ⟨_, rfl⟩
              subst hwo
              clear HM hD
              go_wp2_with fail
              go_loopw [12] (fun v12 wr2 => ∃ (i : Nat) (m : List (List Int)), v12 = .int .i64 (i : Int) ∧ i ≤ E.length ∧ Aside0 (WMat w2 wr2 E.length g c m ∧ InW D E.length k i 0 (mv m))) (fun v12 _ => E.length - (intOf v12).toNat)
              case atStart => exact ⟨0, m, rfl, by omega, HM3⟩
              case round =>
                clear HM3
                obtain ⟨i, m, rfl, hi, HM⟩ := hrel
                by_cases hin : i < E.length
                · have hib : decide ((i : Int) < (E.length : Int)) = true := by simpa using hin
                  have hi0 : (0 : Int) ≤ (i : Int) := by omega
                  have hi1 : (i : Int) < (E.length : Int) := by omega
                  obtain ⟨bi, di, k0, _, kf⟩ := HM.out.1.at i hin
                  obtain ⟨k1, _, _⟩ := kf k hkn
                  have HX := Aside0.mk (HM.out.2.head HDG.out hkn hin)
                  clear kf
                  by_cases hx : mv m (i : Int) (k : Int) = 4000000000000000
                  · have hxb : (mv m (i : Int) (k : Int) == 4000000000000000) = true := by simpa using hx
                    have HSK : Aside0 (InW D E.length k (i + 1) 0 (mv m)) := ⟨HM.out.2.skip (by rw [← HX.out]; exact hx)⟩
                    generalize mv m (i : Int) (k : Int) = x at k1 hxb
                    clear hx HX
                    go_wp2_with fail
                    go_roundw
                    case rel => exact ⟨i + 1, m, by go_num, by omega, ⟨HM.out.1, HSK.out⟩⟩
                    case measure => simp [intOf]; omega
                  · have hxb : (mv m (i : Int) (k : Int) == 4000000000000000) = false := by simpa using hx
                    have HXN : Aside0 (D i k ≠ noW) := ⟨by rw [← HX.out]; exact hx⟩
                    generalize mv m (i : Int) (k : Int) = x at k1 hxb
                    clear hx HX
                    obtain ⟨wo, hwo⟩ : ∃ wo : World, wo = wr := ⟨_, rfl⟩
                    subst hwo
                    go_wp2_with fail
                    clear k0 k1 hxb
                    go_loopw [13] (fun v13 wr2 => ∃ (j : Nat) (m : List (List Int)), v13 = .int .i64 (j : Int) ∧ j ≤ E.length ∧ Aside0 (WMat w2 wr2 E.length g c m ∧ InW D E.length k i j (mv m))) (fun v13 _ => E.length - (intOf v13).toNat)
                    case atStart => exact ⟨0, m, rfl, by omega, HM⟩
                    case round =>
                      clear HM
                      obtain ⟨j, m, rfl, hj, HM⟩ := hrel
                      by_cases hjn : j < E.length
                      · have hjb : decide ((j : Int) < (E.length : Int)) = true := by simpa using hjn
                        have hj0 : (0 : Int) ≤ (j : Int) := by omega
                        have hj1 : (j : Int) < (E.length : Int) := by omega
                        obtain ⟨bi, di, bk, dk, k0, k1, k2, k3, k4, _, _⟩ := HM.out.1.three i k j hin hkn hjn
                        have HV := Aside0.mk (HM.out.2.vals HDG.out hkn hin hjn)
                        by_cases hy : mv m (k : Int) (j : Int) = 4000000000000000
                        · have hyb : (mv m (k : Int) (j : Int) != 4000000000000000) = false := by simpa using hy
                          have HK1 : Aside0 (InW D E.length k i (j + 1) (mv m)) := ⟨HM.out.2.keep (by
                            unfold relW
                            rw [if_neg HXN.out, if_neg (fun h => h.1 (by rw [← HV.out.2.1]; exact hy))])⟩
                          clear hy HV
                          generalize mv m (i : Int) (k : Int) = x at k2
                          generalize mv m (k : Int) (j : Int) = y at k3 hyb
                          generalize mv m (i : Int) (j : Int) = z at k4
                          go_wp2_with fail
                          go_quiet (fail)
                          go_wp2_with fail
                          go_roundw
                          case rel => exact ⟨j + 1, m, by go_num, by omega, ⟨HM.out.1.below (pw_below_drewN (Below.refl _ wr) nq), HK1.out⟩⟩
                          case measure => simp [intOf]; omega
                        · have hyb : (mv m (k : Int) (j : Int) != 4000000000000000) = true := by simpa using hy
                          have HYN : Aside0 (D k j ≠ noW) := ⟨by rw [← HV.out.2.1]; exact hy⟩
                          have HW : Aside0 (wrap64 (mv m (i : Int) (k : Int) + mv m (k : Int) (j : Int)) = D i k + D k j) := ⟨by
                            have b1 := HBD.out i k ⟨hi0, hi1⟩ ⟨hk0, hk1⟩ HXN.out
                            have b2 := HBD.out k j ⟨hk0, hk1⟩ ⟨hj0, hj1⟩ HYN.out
                            rw [HV.out.1, HV.out.2.1]
                            exact wrap64_id0 _ (by omega) (by omega)⟩
                          clear hy
                          by_cases hc : wrap64 (mv m (i : Int) (k : Int) + mv m (k : Int) (j : Int)) < mv m (i : Int) (j : Int)
                          · have hcb : decide (wrap64 (mv m (i : Int) (k : Int) + mv m (k : Int) (j : Int)) < mv m (i : Int) (j : Int)) = true := by simpa using hc
                            have HR1 : Aside0 (relW k D i j = wrap64 (mv m (i : Int) (k : Int) + mv m (k : Int) (j : Int))) := ⟨by
                              unfold relW
                              rw [if_neg HXN.out, if_pos ⟨HYN.out, by rw [← HV.out.2.2, ← HW.out]; exact hc⟩, HW.out]⟩
                            have HPT := Aside0.mk (fun v => mv_put HM.out.1.len HM.out.1.row i j hin hjn v)
                            have HPN := Aside0.mk (fun M' hM' => HM.out.2.put (M' := M') hM')
                            have HM1 := Aside0.mk HM.out.1
                            clear hc HV HW HM
                            go_wp2_with fail
                            go_quiet (fail)
                            have HM2 := Aside0.mk (HM1.out.below (pw_below_drewN (Below.refl _ wr) nq))
                            go_wp2_with fail
                            clear k0 k1 k2 k3 k4 HM1
                            generalize wr.drewN nq = V1 at HM2 ⊢
                            obtain ⟨bi, di, bk, dk, k0, k1, k2, k3, k4, k5, kS⟩ := (HM2.out.below (below_drew1 (Below.refl _ V1))).three i k j hin hkn hjn
                            replace k0 : V1.cell? _ = _ := k0
                            replace k1 : V1.cell? _ = _ := k1
                            replace k2 : V1.cell? _ = _ := k2
                            replace k3 : V1.cell? _ = _ := k3
                            have KS := Aside0.mk kS
                            clear kS hcb
                            generalize mv m (i : Int) (k : Int) = x at k2 HR1
                            generalize mv m (k : Int) (j : Int) = y at k3 HR1
                            generalize mv m (i : Int) (j : Int) = z at k4
                            go_still_tail 21, (by kernel_rfl)
                            change wpList _ _ _ _ _ V1.drew
                            generalize V1.drew = V2 at k4 k5 KS ⊢
                            clear k0 k1 k2 k3
                            go_wp2_with fail
                            go_roundw
                            case rel => exact ⟨j + 1, _, by go_num, by omega, ⟨KS.out _, HPN.out _ (fun a b => by rw [HR1.out]; exact HPT.out _ a b)⟩⟩
                            case measure => simp [intOf]; omega
                          · have hcb : decide (wrap64 (mv m (i : Int) (k : Int) + mv m (k : Int) (j : Int)) < mv m (i : Int) (j : Int)) = false := by simpa using hc
                            have HK1 : Aside0 (InW D E.length k i (j + 1) (mv m)) := ⟨HM.out.2.keep (by
                              unfold relW
                              rw [if_neg HXN.out, if_neg (fun h => hc (by rw [HW.out, HV.out.2.2]; exact h.2))])⟩
                            clear hc HV HW
                            generalize mv m (i : Int) (k : Int) = x at k2 hcb
                            generalize mv m (k : Int) (j : Int) = y at k3 hyb hcb
                            generalize mv m (i : Int) (j : Int) = z at k4 hcb
                            go_wp2_with fail
                            go_quiet (fail)
                            go_wp2_with fail
                            go_roundw
                            case rel => exact ⟨j + 1, m, by go_num, by omega, ⟨HM.out.1.below (pw_below_drewN (Below.refl _ wr) nq), HK1.out⟩⟩
                            case measure => simp [intOf]; omega
                      · have hjb : decide ((j : Int) < (E.length : Int)) = false := by simpa using hjn
                        go_wp2_with fail
                        go_roundw
                        case rel => exact ⟨i + 1, m, by go_num, by omega, ⟨HM.out.1, HM.out.2.next (by omega)⟩⟩
                        case measure => simp [intOf]; omega
                · have hib : decide ((i : Int) < (E.length : Int)) = false := by simpa using hin
                  obtain rfl : i = E.length := by omega
                  have HRM := Aside0.mk (HRD.out _ HM.out.2)
                  have HM4 := Aside0.mk HM.out.1
                  clear HM hin hi HRD
                  obtain ⟨wo, hwo⟩ : ∃ wo : World, wo = wr := ⟨_, rfl⟩
                  subst hwo
                  go_wp2_with fail
                  go_loopw [14] (fun v14 wr2 => ∃ i : Nat, v14 = .int .i64 (i : Int) ∧ i ≤ E.length ∧ Aside0 (WMat w2 wr2 E.length g c m ∧ ∀ a : Nat, a < i → 0 ≤ mv m (a : Int) (a : Int))) (fun v14 _ => E.length - (intOf v14).toNat)
                  case atStart => exact ⟨0, rfl, by omega, ⟨HM4.out, fun a ha => by omega⟩⟩
                  case round =>
                    clear HM4
                    obtain ⟨i, rfl, hi, HM⟩ := hrel
                    by_cases hin : i < E.length
                    · have hib : decide ((i : Int) < (E.length : Int)) = true := by simpa using hin
                      have hi0 : (0 : Int) ≤ (i : Int) := by omega
                      have hi1 : (i : Int) < (E.length : Int) := by omega
                      obtain ⟨bi, di, k0, _, kf⟩ := HM.out.1.at i hin
                      obtain ⟨k1, _, _⟩ := kf i hin
                      clear kf
                      by_cases hz : mv m (i : Int) (i : Int) < 0
                      · have hzb : decide (mv m (i : Int) (i : Int) < 0) = true := by simpa using hz
                        have HNG := Aside0.mk (HRM.out.1 i hin hz)
                        generalize mv m (i : Int) (i : Int) = z at k1 hzb
                        clear hz
                        go_wp2_with fail
                        go_ret2
                        exact ⟨_, _, rfl, below_step HB.out HM.out.1.bel, by rw [HBE.out]; exact .inl ⟨rfl, rfl, HNG.out⟩⟩
                      · have hzb : decide (mv m (i : Int) (i : Int) < 0) = false := by simpa using hz
                        have HP : Aside0 (∀ a : Nat, a < i + 1 → 0 ≤ mv m (a : Int) (a : Int)) := ⟨fun a ha => by
                          by_cases e : a = i
                          · subst e; omega
                          · exact HM.out.2 a (by omega)⟩
                        generalize mv m (i : Int) (i : Int) = z at k1 hzb
                        clear hz
                        go_wp2_with fail
                        go_roundw
                        case rel => exact ⟨i + 1, by go_num, by omega, ⟨HM.out.1, HP.out⟩⟩
                        case measure => simp [intOf]; omega
                    · have hib : decide ((i : Int) < (E.length : Int)) = false := by simpa using hin
                      go_wp2_with fail
                      go_roundw
                      case rel => exact ⟨k + 1, m, by go_num, by omega, ⟨HM.out.1, HRM.out.2 (fun a ha => HM.out.2 a (by omega))⟩⟩
                      case measure => simp [intOf]; omega
            · have hkb : decide ((k : Int) < (E.length : Int)) = false := by simpa using hkn
              obtain rfl : k = E.length := by omega
              go_wp2_with fail
              go_ret2
              exact ⟨_, _, rfl, below_step HB.out HM.out.1.bel, by rw [HBE.out]; exact .inr ⟨rfl, _, _, _, rfl, HM.out.1.lift HB.out, HM.out.2⟩⟩
end Go.Proofs.Ytlfopemghafboaa.D
