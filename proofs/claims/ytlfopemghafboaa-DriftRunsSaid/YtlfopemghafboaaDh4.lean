/- Contracts of functions that the law reaches, each a walk through its code. No condition beyond each theorem's own hypotheses. -/
import Derived.Test.YtlfopemghafboaaDh3
import Derived.WalkSpells
import Derived.Handy
import Derived.Deep.RegionWith
import Derived.StillTailTactics
import Derived.WideLaws
import Derived.IntWalk
import Derived.Shelf.Abstract
namespace Go.Proofs.Ytlfopemghafboaa.D
open Go.RowKit Go.Proofs.YtlfopemghafboaaW.PrintWords Go.Proofs.YtlfopemghafboaaW.PrintLast Go.Proofs.YtlfopemghafboaaW.PrintMore
set_option linter.unusedVariables false
set_option linter.unusedSimpArgs false

def rightB (R : List S42) (E : List S80) (i : Int) (e : S80) : Bool := if e.f1 = 1 then firstOK e else if e.f1 = 2 then timerOK E i e else postOK i e
def kindOK (e : S80) : Bool := (e.f1 == 1) || (e.f1 == 2) || (e.f1 == 3)
def evOK (R : List S42) (E : List S80) (i : Int) (e : S80) : Bool := kindOK e && betweenB e.f0 0 ((R.length : Int) - 1) && rightB R E i e
def evsOK (R : List S42) (E : List S80) : Bool := (List.range E.length).all fun i => evOK R E i (rd_T80 E i)
def planOK (R : List S42) (E : List S80) : Bool := betweenB R.length 1 32 && betweenB E.length 1 100 && ((rd_T80 E 0).f1 == 1) && !(R.any fun r => !rateOK r) && evsOK R E

theorem evsOK_false (R : List S42) (E : List S80) (j : Nat) (hj : j < E.length) (h : evOK R E (j : Int) (rd_T80 E (j : Int)) = false) : evsOK R E = false := by
  unfold evsOK
  rw [List.all_eq_false]
  exact ⟨j, List.mem_range.2 hj, by rw [h]; decide⟩
theorem between_eq' {a lo hi : Int} {b : Bool} (h : betweenB a lo hi = b) (w : World) : Calls Try.prog 59 #[.int .i64 a, .int .i64 lo, .int .i64 hi] w fun e w' => e = .returned (.bool b) ∧ w = w' := (between_eq h w).mono fun _ _ h => ⟨h.1, h.2.symm⟩
theorem en83 (args : Array Value) (w : World) : (callFunc 83 args).run Try.prog w = .ok (.enter 83 args) w := enters_of Try.func83 (by kernel_rfl) rfl args w
theorem rates_any (A : Option Addr) (c : Nat) (R : List S42) (w : World) (hr : Kd.C k42 w A R.length R) (b : Bool) (hb : (R.any fun r => !rateOK r) = b) : Calls Try.prog 82 #[.slice A R.length c, .func (.func 83) #[] #[]] w fun e w' => e = .returned (.bool b) ∧ Below w.heap.size w w' :=
  hb ▸ any_rate 83 en83 #[] (fun r => !rateOK r) A c R w hr (fun i _ _ W _ => by rw [Array.append_empty]; exact notRate _ w W)

set_option maxHeartbeats 3200000 in
set_option maxRecDepth 100000 in
theorem isPlan_go (g : Nat) (R : List S42) (E : List S80) (w : World) (hP : PlanAt w g R E) (hR : betweenB R.length 1 32 = true) (hE : betweenB E.length 1 100 = true) (h0 : ((rd_T80 E 0).f1 == 1) = true) (hA : (R.any fun r => !rateOK r) = false) :
    Calls Try.prog 58 #[.pointer (some ⟨g, 0, none⟩)] w fun e' w' => e' = .returned (.bool (evsOK R E)) ∧ Below w.heap.size w w' := by
  have hl : 1 ≤ R.length ∧ R.length ≤ 32 ∧ 1 ≤ E.length ∧ E.length ≤ 100 := by simp [betweenB] at hR hE; omega
  obtain ⟨l1, l2, l3, l4⟩ := hl
  have h0' : ((rd_T80 E 0).f1 != 1) = false := by simpa using h0
  have CR := Aside0.mk hR
  have CE := Aside0.mk hE
  have CA := Aside0.mk hA
  have HP := Aside0.mk hP
  obtain ⟨A0, c0, A1, c1, g1, g2, g3, g4, g5⟩ := hP
  obtain ⟨ad, e1, _, z1, _⟩ := at_T80 g3 0 (by omega) (by omega)
  cases e1
  have p0 : w.cell? ⟨g, 0, none⟩ = some (.slice A0 R.length c0) := (blk_cell g1 0).trans rfl
  have p1 : w.cell? ⟨g, 1, none⟩ = some (.slice (some ad) E.length c1) := (blk_cell g1 1).trans rfl
  have z1' : w.cell? ⟨ad.block, ad.off + 1, none⟩ = some (.int .i64 (rd_T80 E 0).f1) := by rw [show Int.toNat 0 * 6 = 0 from rfl, Addr.add_zero'] at z1; exact z1
  have G2 := Aside0.mk g2
  have G3 := Aside0.mk g3
  clear hR hE hA g1 g2 g3 z1 h0
  go_enter Try.func58, Try.ntmps58
  go_wp2_with (first | (go_at_call_of 59 R; refine (between_eq' CR.out _).mono ?_; rintro e w' ⟨rfl, rfl⟩) | (go_at_call_of 59 E; refine (between_eq' CE.out _).mono ?_; rintro e w' ⟨rfl, rfl⟩) | (go_at_call 82; refine (rates_any _ _ _ _ G2.out _ CA.out).mono ?_; rintro e w1 ⟨rfl, hb⟩; have HB := Aside0.mk hb; have p1' := (hb.cell (World.block_lt_of_cell? w _ p1)).trans p1; clear hb p0 p1 z1'))
  clear h0' CR CE CA
  go_loopw [44] (fun v wr => ∃ j : Nat, v = .int .i64 j ∧ j ≤ E.length ∧ Aside0 (∀ i : Nat, i < j → evOK R E i (rd_T80 E i) = true) ∧ Aside0 (Below w.heap.size w wr)) (fun v _ => E.length - (intOf v).toNat)
  case atStart => exact ⟨0, rfl, by omega, ⟨fun i h => absurd h (by omega)⟩, HB⟩
  case round =>
    clear HB p1'
    obtain ⟨j, rfl, hj, HN, HB⟩ := hrel
    by_cases hlt : j < E.length
    · have hltb : decide ((j : Int) < (E.length : Int)) = true := by simpa using hlt
      obtain ⟨ad', e1, x0, x1, x2, x3, x4, x5⟩ := at_T80 G3.out (j : Int) (by omega) (by omega)
      cases e1
      replace x0 := (HB.out.cell (World.block_lt_of_cell? w _ x0)).trans x0
      replace x1 := (HB.out.cell (World.block_lt_of_cell? w _ x1)).trans x1
      replace x2 := (HB.out.cell (World.block_lt_of_cell? w _ x2)).trans x2
      replace x3 := (HB.out.cell (World.block_lt_of_cell? w _ x3)).trans x3
      replace x4 := (HB.out.cell (World.block_lt_of_cell? w _ x4)).trans x4
      replace x5 := (HB.out.cell (World.block_lt_of_cell? w _ x5)).trans x5
      simp only [Int.toNat_natCast] at x0 x1 x2 x3 x4 x5
      go_wp2_with fail
      refine (causeOf_any (rd_T80 E (j : Int)) _).mono ?_
      rintro e w3 ⟨rfl, hb3⟩
      have BX := Aside0.mk (blk_below (blk_new wr (.cells #[.int .i64 (rd_T80 E (j : Int)).f0, .int .i64 (rd_T80 E (j : Int)).f1, .int .i64 (rd_T80 E (j : Int)).f2, .int .i64 (rd_T80 E (j : Int)).f3, .int .i64 (rd_T80 E (j : Int)).f4, .int .i64 (rd_T80 E (j : Int)).f5] 80)) hb3)
      have HB3 := Aside0.mk (below_step (below_alloc HB.out _) hb3)
      clear x0 x1 x2 x3 x4 x5 hb3
      generalize wr.heap.size = gb at BX ⊢
      generalize hx : rd_T80 E (j : Int) = x at BX ⊢
      have HX := Aside0.mk hx
      clear hx
      obtain ⟨f0, f1, f2, f3, f4, f5⟩ := x
      simp only at BX
      have y0 : w3.cell? ⟨gb, 0, none⟩ = some (.int .i64 f0) := (blk_cell BX.out 0).trans rfl
      obtain ⟨A0', c0', A1', c1', g1, _⟩ := HP.out.below HB3.out
      have p0 : w3.cell? ⟨g, 0, none⟩ = some (.slice A0' R.length c0') := (blk_cell g1 0).trans rfl
      clear g1
      by_cases k1 : f1 = 1
      · have hk : kindOK ⟨f0, f1, f2, f3, f4, f5⟩ = true := by unfold kindOK; simp [k1]
        have hr : rightB R E (j : Int) ⟨f0, f1, f2, f3, f4, f5⟩ = firstOK ⟨f0, f1, f2, f3, f4, f5⟩ := by unfold rightB; rw [if_pos k1]
        have hc : causeV ⟨f0, f1, f2, f3, f4, f5⟩ = .iface 130 (.agg #[.int .i64 f0, .int .i64 f1, .int .i64 f2, .int .i64 f3, .int .i64 f4, .int .i64 f5]) := by unfold causeV; rw [if_pos k1]; rfl
        rw [hc]
        have HK := Aside0.mk hk
        have HRi := Aside0.mk hr
        clear hc hk hr k1
        cases hp : betweenB f0 0 ((R.length : Int) - 1)
        · have hv : evsOK R E = false := evsOK_false R E j hlt (by rw [HX.out]; unfold evOK; simp only [hp, Bool.and_false, Bool.false_and])
          have HV := Aside0.mk hv
          have CP := Aside0.mk hp
          clear hp hv
          go_wp2_with fail
          go_quiet ((go_at_call 59; exact Calls.quiet_of_same (between_eq CP.out _)))
          go_wp2_with fail
          go_ret
          exact ⟨by rw [HV.out]; rfl, pw_below_drewN HB3.out _⟩
        · have CP := Aside0.mk hp
          clear hp
          go_wp2_with fail
          refine wp_region_still_tail 18 (by kernel_rfl) (by kernel_rfl) ?_
          simp only [List.take_succ_cons, List.take_zero, List.drop_succ_cons, List.drop_zero]
          generalize hw4 : ({ heap := w3.heap, tape := w3.tape, drawn := w3.drawn + 1, os := w3.os, output := w3.output } : World) = w4
          have y0' : w4.cell? ⟨gb, 0, none⟩ = some (.int .i64 f0) := by rw [← hw4]; exact y0
          have p0' : w4.cell? ⟨g, 0, none⟩ = some (.slice A0' R.length c0') := by rw [← hw4]; exact p0
          have HB4 := Aside0.mk (show Below w.heap.size w w4 by rw [← hw4]; exact below_drew HB3.out)
          clear hw4 y0 p0
          have hwr : IntKind.i64.wrap ((R.length : Int) - 1) = (R.length : Int) - 1 := IntWalk.i64_in _ (by omega)
          repeat still_step
          still_call (between_eq CP.out _)
          repeat still_step
          refine wpStill_nil ?_
          go_wp2_with fail
          refine (first_right ⟨f0, f1, f2, f3, f4, f5⟩ _ _ _).mono ?_
          rintro e w5 ⟨rfl, hb5⟩
          have HB5 := Aside0.mk (below_step HB4.out hb5)
          clear hb5
          cases hq : firstOK ⟨f0, f1, f2, f3, f4, f5⟩
          · have hv : evsOK R E = false := evsOK_false R E j hlt (by rw [HX.out]; unfold evOK; rw [HRi.out, hq, Bool.and_false])
            have HV := Aside0.mk hv
            clear hv hq
            go_wp2_with fail
            go_ret
            exact ⟨by rw [HV.out]; rfl, HB5.out⟩
          · have hv : evOK R E (j : Int) (rd_T80 E (j : Int)) = true := by rw [HX.out]; unfold evOK; rw [HRi.out, hq, HK.out, CP.out]; rfl
            have HV := Aside0.mk hv
            clear hv hq
            go_wp2_with fail
            go_roundw
            case rel =>
              refine ⟨j + 1, by go_num, by omega, ⟨fun i hi => ?_⟩, HB5⟩
              rcases Nat.lt_or_ge i j with h | h
              · exact HN.out i h
              · have e : i = j := by omega
                rw [e]
                exact HV.out
            case measure => simp [intOf]; omega
      · by_cases k2 : f1 = 2
        · have hk : kindOK ⟨f0, f1, f2, f3, f4, f5⟩ = true := by unfold kindOK; simp [k1, k2]
          have hr : rightB R E (j : Int) ⟨f0, f1, f2, f3, f4, f5⟩ = timerOK E (j : Int) ⟨f0, f1, f2, f3, f4, f5⟩ := by unfold rightB; rw [if_neg k1]; rw [if_pos k2]
          have hc : causeV ⟨f0, f1, f2, f3, f4, f5⟩ = .iface 131 (.agg #[.int .i64 f0, .int .i64 f1, .int .i64 f2, .int .i64 f3, .int .i64 f4, .int .i64 f5]) := by unfold causeV; rw [if_neg k1]; rw [if_pos k2]; rfl
          rw [hc]
          have HK := Aside0.mk hk
          have HRi := Aside0.mk hr
          clear hc hk hr k1 k2
          cases hp : betweenB f0 0 ((R.length : Int) - 1)
          · have hv : evsOK R E = false := evsOK_false R E j hlt (by rw [HX.out]; unfold evOK; simp only [hp, Bool.and_false, Bool.false_and])
            have HV := Aside0.mk hv
            have CP := Aside0.mk hp
            clear hp hv
            go_wp2_with fail
            go_quiet ((go_at_call 59; exact Calls.quiet_of_same (between_eq CP.out _)))
            go_wp2_with fail
            go_ret
            exact ⟨by rw [HV.out]; rfl, pw_below_drewN HB3.out _⟩
          · have CP := Aside0.mk hp
            clear hp
            go_wp2_with fail
            refine wp_region_still_tail 18 (by kernel_rfl) (by kernel_rfl) ?_
            simp only [List.take_succ_cons, List.take_zero, List.drop_succ_cons, List.drop_zero]
            generalize hw4 : ({ heap := w3.heap, tape := w3.tape, drawn := w3.drawn + 1, os := w3.os, output := w3.output } : World) = w4
            have y0' : w4.cell? ⟨gb, 0, none⟩ = some (.int .i64 f0) := by rw [← hw4]; exact y0
            have p0' : w4.cell? ⟨g, 0, none⟩ = some (.slice A0' R.length c0') := by rw [← hw4]; exact p0
            have HB4 := Aside0.mk (show Below w.heap.size w w4 by rw [← hw4]; exact below_drew HB3.out)
            clear hw4 y0 p0
            have hwr : IntKind.i64.wrap ((R.length : Int) - 1) = (R.length : Int) - 1 := IntWalk.i64_in _ (by omega)
            repeat still_step
            still_call (between_eq CP.out _)
            repeat still_step
            refine wpStill_nil ?_
            go_wp2_with fail
            refine (timer_right ⟨f0, f1, f2, f3, f4, f5⟩ g R E (j : Int) (by omega) (by omega) l4 _ (HP.out.below HB4.out)).mono ?_
            rintro e w5 ⟨rfl, hb5⟩
            have HB5 := Aside0.mk (below_step HB4.out hb5)
            clear hb5
            cases hq : timerOK E (j : Int) ⟨f0, f1, f2, f3, f4, f5⟩
            · have hv : evsOK R E = false := evsOK_false R E j hlt (by rw [HX.out]; unfold evOK; rw [HRi.out, hq, Bool.and_false])
              have HV := Aside0.mk hv
              clear hv hq
              go_wp2_with fail
              go_ret
              exact ⟨by rw [HV.out]; rfl, HB5.out⟩
            · have hv : evOK R E (j : Int) (rd_T80 E (j : Int)) = true := by rw [HX.out]; unfold evOK; rw [HRi.out, hq, HK.out, CP.out]; rfl
              have HV := Aside0.mk hv
              clear hv hq
              go_wp2_with fail
              go_roundw
              case rel =>
                refine ⟨j + 1, by go_num, by omega, ⟨fun i hi => ?_⟩, HB5⟩
                rcases Nat.lt_or_ge i j with h | h
                · exact HN.out i h
                · have e : i = j := by omega
                  rw [e]
                  exact HV.out
              case measure => simp [intOf]; omega
        · by_cases k3 : f1 = 3
          · have hk : kindOK ⟨f0, f1, f2, f3, f4, f5⟩ = true := by unfold kindOK; simp [k1, k2, k3]
            have hr : rightB R E (j : Int) ⟨f0, f1, f2, f3, f4, f5⟩ = postOK (j : Int) ⟨f0, f1, f2, f3, f4, f5⟩ := by unfold rightB; rw [if_neg k1]; rw [if_neg k2]
            have hc : causeV ⟨f0, f1, f2, f3, f4, f5⟩ = .iface 132 (.agg #[.int .i64 f0, .int .i64 f1, .int .i64 f2, .int .i64 f3, .int .i64 f4, .int .i64 f5]) := by unfold causeV; rw [if_neg k1]; rw [if_neg k2]; rw [if_pos k3]; rfl
            rw [hc]
            have HK := Aside0.mk hk
            have HRi := Aside0.mk hr
            clear hc hk hr k1 k2 k3
            cases hp : betweenB f0 0 ((R.length : Int) - 1)
            · have hv : evsOK R E = false := evsOK_false R E j hlt (by rw [HX.out]; unfold evOK; simp only [hp, Bool.and_false, Bool.false_and])
              have HV := Aside0.mk hv
              have CP := Aside0.mk hp
              clear hp hv
              go_wp2_with fail
              go_quiet ((go_at_call 59; exact Calls.quiet_of_same (between_eq CP.out _)))
              go_wp2_with fail
              go_ret
              exact ⟨by rw [HV.out]; rfl, pw_below_drewN HB3.out _⟩
            · have CP := Aside0.mk hp
              clear hp
              go_wp2_with fail
              refine wp_region_still_tail 18 (by kernel_rfl) (by kernel_rfl) ?_
              simp only [List.take_succ_cons, List.take_zero, List.drop_succ_cons, List.drop_zero]
              generalize hw4 : ({ heap := w3.heap, tape := w3.tape, drawn := w3.drawn + 1, os := w3.os, output := w3.output } : World) = w4
              have y0' : w4.cell? ⟨gb, 0, none⟩ = some (.int .i64 f0) := by rw [← hw4]; exact y0
              have p0' : w4.cell? ⟨g, 0, none⟩ = some (.slice A0' R.length c0') := by rw [← hw4]; exact p0
              have HB4 := Aside0.mk (show Below w.heap.size w w4 by rw [← hw4]; exact below_drew HB3.out)
              clear hw4 y0 p0
              have hwr : IntKind.i64.wrap ((R.length : Int) - 1) = (R.length : Int) - 1 := IntWalk.i64_in _ (by omega)
              repeat still_step
              still_call (between_eq CP.out _)
              repeat still_step
              refine wpStill_nil ?_
              go_wp2_with fail
              refine (post_right ⟨f0, f1, f2, f3, f4, f5⟩ _ (j : Int) (by omega) (by omega) _).mono ?_
              rintro e w5 ⟨rfl, hb5⟩
              have HB5 := Aside0.mk (below_step HB4.out hb5)
              clear hb5
              cases hq : postOK (j : Int) ⟨f0, f1, f2, f3, f4, f5⟩
              · have hv : evsOK R E = false := evsOK_false R E j hlt (by rw [HX.out]; unfold evOK; rw [HRi.out, hq, Bool.and_false])
                have HV := Aside0.mk hv
                clear hv hq
                go_wp2_with fail
                go_ret
                exact ⟨by rw [HV.out]; rfl, HB5.out⟩
              · have hv : evOK R E (j : Int) (rd_T80 E (j : Int)) = true := by rw [HX.out]; unfold evOK; rw [HRi.out, hq, HK.out, CP.out]; rfl
                have HV := Aside0.mk hv
                clear hv hq
                go_wp2_with fail
                go_roundw
                case rel =>
                  refine ⟨j + 1, by go_num, by omega, ⟨fun i hi => ?_⟩, HB5⟩
                  rcases Nat.lt_or_ge i j with h | h
                  · exact HN.out i h
                  · have e : i = j := by omega
                    rw [e]
                    exact HV.out
                case measure => simp [intOf]; omega
          · have hc : causeV ⟨f0, f1, f2, f3, f4, f5⟩ = .nilIface := by unfold causeV; rw [if_neg k1, if_neg k2, if_neg k3]
            rw [hc]
            have hv : evsOK R E = false := evsOK_false R E j hlt (by rw [HX.out]; unfold evOK kindOK; simp [k1, k2, k3])
            have HV := Aside0.mk hv
            clear hv hc k1 k2 k3
            go_wp2_with fail
            go_quiet (fail)
            go_wp2_with fail
            go_ret
            exact ⟨by rw [HV.out]; rfl, pw_below_drewN HB3.out _⟩
    · have hltb : decide ((j : Int) < (E.length : Int)) = false := by simpa using hlt
      have hv : evsOK R E = true := by
        unfold evsOK
        rw [List.all_eq_true]
        intro i hi
        exact HN.out i (by have := List.mem_range.1 hi; omega)
      go_wp2_with fail
      go_ret
      exact ⟨by rw [hv]; rfl, HB.out⟩

set_option maxHeartbeats 3200000 in
set_option maxRecDepth 100000 in
theorem isPlan_any (g : Nat) (R : List S42) (E : List S80) (w : World) (hP : PlanAt w g R E) :
    Calls Try.prog 58 #[.pointer (some ⟨g, 0, none⟩)] w fun e' w' => e' = .returned (.bool (planOK R E)) ∧ Below w.heap.size w w' := by
  unfold planOK
  cases hR : betweenB R.length 1 32
  · rw [show (false && betweenB (E.length : Int) 1 100 && ((rd_T80 E 0).f1 == 1) && !(R.any fun r => !rateOK r) && evsOK R E) = false from by simp only [Bool.false_and]]
    have CR := Aside0.mk hR
    obtain ⟨A0, c0, A1, c1, g1, _⟩ := hP
    have p0 : w.cell? ⟨g, 0, none⟩ = some (.slice A0 R.length c0) := (blk_cell g1 0).trans rfl
    clear g1 hR
    go_enter Try.func58, Try.ntmps58
    go_wp2_with (go_at_call_of 59 R; refine (between_eq' CR.out _).mono ?_; rintro e w' ⟨rfl, rfl⟩)
    go_ret
    exact ⟨rfl, Below.refl _ _⟩
  · cases hE : betweenB E.length 1 100
    · rw [show (true && false && ((rd_T80 E 0).f1 == 1) && !(R.any fun r => !rateOK r) && evsOK R E) = false from by simp only [Bool.false_and, Bool.and_false]]
      have CR := Aside0.mk hR
      have CE := Aside0.mk hE
      obtain ⟨A0, c0, A1, c1, g1, _⟩ := hP
      have p0 : w.cell? ⟨g, 0, none⟩ = some (.slice A0 R.length c0) := (blk_cell g1 0).trans rfl
      have p1 : w.cell? ⟨g, 1, none⟩ = some (.slice A1 E.length c1) := (blk_cell g1 1).trans rfl
      clear g1 hR hE
      go_enter Try.func58, Try.ntmps58
      go_wp2_with (first | (go_at_call_of 59 R; refine (between_eq' CR.out _).mono ?_; rintro e w' ⟨rfl, rfl⟩) | (go_at_call_of 59 E; refine (between_eq' CE.out _).mono ?_; rintro e w' ⟨rfl, rfl⟩))
      go_ret
      exact ⟨rfl, Below.refl _ _⟩
    · cases hA : (R.any fun r => !rateOK r) <;> cases h0 : ((rd_T80 E 0).f1 == 1)
      · rw [show (true && true && false && !false && evsOK R E) = false from by simp only [Bool.false_and, Bool.and_false]]
        have hl : 1 ≤ E.length := by simp [betweenB] at hE; omega
        have h0' : ((rd_T80 E 0).f1 != 1) = true := by simpa using h0
        have CR := Aside0.mk hR
        have CE := Aside0.mk hE
        obtain ⟨A0, c0, A1, c1, g1, g2, g3, _⟩ := hP
        obtain ⟨ad, e1, _, z1, _⟩ := at_T80 g3 0 (by omega) (by omega)
        cases e1
        have p0 : w.cell? ⟨g, 0, none⟩ = some (.slice A0 R.length c0) := (blk_cell g1 0).trans rfl
        have p1 : w.cell? ⟨g, 1, none⟩ = some (.slice (some ad) E.length c1) := (blk_cell g1 1).trans rfl
        have z1' : w.cell? ⟨ad.block, ad.off + 1, none⟩ = some (.int .i64 (rd_T80 E 0).f1) := by rw [show Int.toNat 0 * 6 = 0 from rfl, Addr.add_zero'] at z1; exact z1
        clear g1 g2 g3 z1 hR hE h0 hA
        go_enter Try.func58, Try.ntmps58
        go_wp2_with (first | (go_at_call_of 59 R; refine (between_eq' CR.out _).mono ?_; rintro e w' ⟨rfl, rfl⟩) | (go_at_call_of 59 E; refine (between_eq' CE.out _).mono ?_; rintro e w' ⟨rfl, rfl⟩))
        go_ret
        exact ⟨rfl, Below.refl _ _⟩
      · refine (isPlan_go g R E w hP hR hE h0 hA).mono fun e w' h => ⟨?_, h.2⟩
        rw [h.1]
        simp only [Bool.true_and, Bool.not_false]
      · rw [show (true && true && false && !true && evsOK R E) = false from by simp only [Bool.false_and, Bool.and_false]]
        have hl : 1 ≤ E.length := by simp [betweenB] at hE; omega
        have h0' : ((rd_T80 E 0).f1 != 1) = true := by simpa using h0
        have CR := Aside0.mk hR
        have CE := Aside0.mk hE
        obtain ⟨A0, c0, A1, c1, g1, g2, g3, _⟩ := hP
        obtain ⟨ad, e1, _, z1, _⟩ := at_T80 g3 0 (by omega) (by omega)
        cases e1
        have p0 : w.cell? ⟨g, 0, none⟩ = some (.slice A0 R.length c0) := (blk_cell g1 0).trans rfl
        have p1 : w.cell? ⟨g, 1, none⟩ = some (.slice (some ad) E.length c1) := (blk_cell g1 1).trans rfl
        have z1' : w.cell? ⟨ad.block, ad.off + 1, none⟩ = some (.int .i64 (rd_T80 E 0).f1) := by rw [show Int.toNat 0 * 6 = 0 from rfl, Addr.add_zero'] at z1; exact z1
        clear g1 g2 g3 z1 hR hE h0 hA
        go_enter Try.func58, Try.ntmps58
        go_wp2_with (first | (go_at_call_of 59 R; refine (between_eq' CR.out _).mono ?_; rintro e w' ⟨rfl, rfl⟩) | (go_at_call_of 59 E; refine (between_eq' CE.out _).mono ?_; rintro e w' ⟨rfl, rfl⟩))
        go_ret
        exact ⟨rfl, Below.refl _ _⟩
      · rw [show (true && true && true && !true && evsOK R E) = false from by simp only [Bool.not_true, Bool.false_and, Bool.and_false]]
        have hl : 1 ≤ E.length := by simp [betweenB] at hE; omega
        have h0' : ((rd_T80 E 0).f1 != 1) = false := by simpa using h0
        have CR := Aside0.mk hR
        have CE := Aside0.mk hE
        have CA := Aside0.mk hA
        obtain ⟨A0, c0, A1, c1, g1, g2, g3, _⟩ := hP
        obtain ⟨ad, e1, _, z1, _⟩ := at_T80 g3 0 (by omega) (by omega)
        cases e1
        have p0 : w.cell? ⟨g, 0, none⟩ = some (.slice A0 R.length c0) := (blk_cell g1 0).trans rfl
        have p1 : w.cell? ⟨g, 1, none⟩ = some (.slice (some ad) E.length c1) := (blk_cell g1 1).trans rfl
        have z1' : w.cell? ⟨ad.block, ad.off + 1, none⟩ = some (.int .i64 (rd_T80 E 0).f1) := by rw [show Int.toNat 0 * 6 = 0 from rfl, Addr.add_zero'] at z1; exact z1
        have G2 := Aside0.mk g2
        clear g1 g2 g3 z1 hR hE h0 hA
        go_enter Try.func58, Try.ntmps58
        go_wp2_with (first | (go_at_call_of 59 R; refine (between_eq' CR.out _).mono ?_; rintro e w' ⟨rfl, rfl⟩) | (go_at_call_of 59 E; refine (between_eq' CE.out _).mono ?_; rintro e w' ⟨rfl, rfl⟩) | (go_at_call 82; refine (rates_any _ _ _ _ G2.out _ CA.out).mono ?_; rintro e w1 ⟨rfl, hb⟩; have HB := Aside0.mk hb; clear hb p0 p1 z1'))
        go_ret
        exact ⟨rfl, HB.out⟩
end Go.Proofs.Ytlfopemghafboaa.D
