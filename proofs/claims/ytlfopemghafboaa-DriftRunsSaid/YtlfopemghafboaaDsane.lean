/- Contracts of functions that the law reaches, each a walk through its code. No condition beyond each theorem's own hypotheses. -/
import Derived.Test.YtlfopemghafboaaDapi
import Derived.Test.YtlfopemghafboaaDx7
import Derived.Test.YtlfopemghafboaaDx8
import Derived.Test.YtlfopemghafboaaDx10
import Derived.WalkSpells
import Derived.Handy
import Derived.StillTailTactics
import Derived.IntWalk
import Derived.Deep.RegionHeld3
namespace Go.Proofs.Ytlfopemghafboaa.D
open Go.RowKit Go.Proofs.YtlfopemghafboaaW.PrintWords Go.Proofs.YtlfopemghafboaaW.PrintLast Go.Proofs.YtlfopemghafboaaW.PrintMore
set_option linter.unusedVariables false
set_option linter.unusedSimpArgs false
def R0 : List S42 := [⟨9, 10⟩, ⟨9, 10⟩]
def E0 : List S80 := [⟨0, 1, 0, 0, 0, 0⟩, ⟨0, 2, 0, 45, 0, 0⟩, ⟨1, 3, 0, 0, 0, 1⟩, ⟨1, 2, 2, 90, 0, 0⟩, ⟨0, 3, 3, 0, 0, 2⟩]
def L0 : List S27 := [⟨0, 2, 1⟩, ⟨2, 0, 0⟩, ⟨3, 4, 2⟩, ⟨4, 3, 0⟩, ⟨0, 1, 5⟩, ⟨1, 0, -5⟩, ⟨2, 3, 10⟩, ⟨3, 2, -9⟩, ⟨1, 0, 0⟩, ⟨2, 0, 0⟩, ⟨3, 0, 0⟩, ⟨4, 0, 0⟩]
def T0 : List Int := [0, 5, 0, 9, 9]
def P0 : List Int := [0, 6, 2]
def D0 : List S56 := [⟨1, 3, 4, 6⟩, ⟨1, 4, 4, 7⟩]
theorem v_nar1 : dr_Narrow.f 9 9 10 2 5 = some (20, 45, true, 0) := by kernel_rfl
theorem v_nar2 : dr_Narrow.f 9 9 10 3 (-1) = some (30, -1, true, 0) := by kernel_rfl
theorem v_nar3 : dr_Narrow.f 9 9 10 5 5 = some (0, 0, false, 0) := by kernel_rfl
theorem v_real1 : dr_Real.f 9 10 45 = some (5, 5, true, 0) := by kernel_rfl
theorem v_real2 : dr_Real.f 9 10 8 = some (0, 0, false, 0) := by kernel_rfl
theorem v_binds : dr_Binds.f R0 E0 = some (L0, 0) := by kernel_rfl
theorem v_same : rf_SameBinds.f 60 L0 L0 = some true := by kernel_rfl
theorem v_earl : dr_Earliest.f R0 E0 = some (T0, true, 0) := by kernel_rfl
theorem v_ints : rf_SameInts.f 60 T0 T0 = some true := by kernel_rfl
theorem v_tight : dr_Tight.f R0 E0 0 4 = some (13, P0, true, 0) := by kernel_rfl
theorem v_ctight : dr_CheckTight.f R0 E0 0 4 13 P0 = some 0 := by kernel_rfl
theorem v_holds : dr_Holds.f R0 E0 D0 = some (1, 0) := by kernel_rfl
theorem ex_any (w : World) : Calls Try.prog 57 #[] w fun e w' => ∃ A0 c0 A1 c1, e = .returned (.agg #[.slice A0 R0.length c0, .slice A1 E0.length c1]) ∧ (Kd.C k42 w' A0 R0.length R0 ∧ R0.length ≤ c0 ∧ Kd.C k80 w' A1 E0.length E0 ∧ E0.length ≤ c1) ∧ Below w.heap.size w w' := by
  refine (lw_example.calls R0 E0 w rfl).mono ?_
  rintro e w' ⟨v0, v1, rfl, h0, h1, hb⟩
  obtain ⟨A0, c0, rfl, hc0, hC0⟩ := Kd.R_reads h0
  obtain ⟨A1, c1, rfl, hc1, hC1⟩ := Kd.R_reads h1
  exact ⟨A0, c0, A1, c1, rfl, ⟨hC0, hc0, hC1, hc1⟩, hb⟩
theorem len12 {W : World} {h : Nat} (hN : W.heap[h]? = some (.cells #[.int .i64 0, .int .i64 2, .int .i64 1, .int .i64 2, .int .i64 0, .int .i64 0, .int .i64 3, .int .i64 4, .int .i64 2, .int .i64 4, .int .i64 3, .int .i64 0, .int .i64 0, .int .i64 1, .int .i64 5, .int .i64 1, .int .i64 0, .int .i64 (-5), .int .i64 2, .int .i64 3, .int .i64 10, .int .i64 3, .int .i64 2, .int .i64 (-9), .int .i64 1, .int .i64 0, .int .i64 0, .int .i64 2, .int .i64 0, .int .i64 0, .int .i64 3, .int .i64 0, .int .i64 0, .int .i64 4, .int .i64 0, .int .i64 0] 27 (0, 0))) : Kd.C k27 W (some ⟨h, 0, none⟩) L0.length L0 := by
  refine ⟨rfl, by decide, fun _ => ⟨_, rfl, fun j r hr => ?_⟩⟩
  have hj : j < 12 := (List.getElem?_eq_some_iff.1 hr).1
  refine ⟨_, k27.K_len (k27_mk W r), k27_mk W r, fun k u hu => ?_⟩
  rw [add_zero_]
  have hk : k < 3 := by have := (List.getElem?_eq_some_iff.1 hu).1; simpa using this
  rw [blk_cell hN]
  rcases (by omega : j = 0 ∨ j = 1 ∨ j = 2 ∨ j = 3 ∨ j = 4 ∨ j = 5 ∨ j = 6 ∨ j = 7 ∨ j = 8 ∨ j = 9 ∨ j = 10 ∨ j = 11) with rfl | rfl | rfl | rfl | rfl | rfl | rfl | rfl | rfl | rfl | rfl | rfl <;> (cases hr; rcases (by omega : k = 0 ∨ k = 1 ∨ k = 2) with rfl | rfl | rfl <;> exact hu)
theorem c_ints {W : World} {h : Nat} {xs : List Int} (hN : W.heap[h]? = some (.cells (ints xs) 3 (0, 0))) (hl : xs.length ≤ 9223372036854775807) : Kd.C (Kd.int .i64) W (some ⟨h, 0, none⟩) xs.length xs := by
  refine ⟨rfl, hl, fun _ => ⟨_, rfl, fun j r hr => ?_⟩⟩
  refine ⟨[.int .i64 r], rfl, rfl, fun k u hu => ?_⟩
  have hk : k < 1 := by have := (List.getElem?_eq_some_iff.1 hu).1; simpa using this
  obtain rfl : k = 0 := by omega
  rw [add_zero_, blk_cell hN]
  simp only [List.getElem?_cons_zero, Option.some.injEq] at hu
  subst hu
  show (ints xs)[j * 1 + 0]? = _
  simp [ints, hr]
theorem len2 {W : World} {h : Nat} (hN : W.heap[h]? = some (.cells #[.int .i64 1, .int .i64 3, .int .i64 4, .int .i64 6, .int .i64 1, .int .i64 4, .int .i64 4, .int .i64 7] 56 (0, 0))) : Kd.C k56 W (some ⟨h, 0, none⟩) D0.length D0 := by
  refine ⟨rfl, by decide, fun _ => ⟨_, rfl, fun j r hr => ?_⟩⟩
  have hj : j < 2 := (List.getElem?_eq_some_iff.1 hr).1
  refine ⟨_, k56.K_len (k56_mk W r), k56_mk W r, fun k u hu => ?_⟩
  rw [add_zero_]
  have hk : k < 4 := by have := (List.getElem?_eq_some_iff.1 hu).1; simpa using this
  rw [blk_cell hN]
  rcases (by omega : j = 0 ∨ j = 1) with rfl | rfl <;> (cases hr; rcases (by omega : k = 0 ∨ k = 1 ∨ k = 2 ∨ k = 3) with rfl | rfl | rfl | rfl <;> exact hu)
def lw_sane.f : Option Bool := some true
set_option maxHeartbeats 3200000 in
set_option maxRecDepth 100000 in
theorem lw_sane.calls (r : Bool) (w : World) (h : lw_sane.f = some r) : Calls Try.prog 15 #[] w fun e w' => e = .returned (.bool r) ∧ Below w.heap.size w w' := by
  have hr : true = r := by simpa [lw_sane.f] using h
  subst hr
  clear h
  go_enter Try.func15, Try.ntmps15
  go_wp2_with fail
  have HB0 := Aside0.mk (below_alloc (Below.refl w.heap.size w) (.cells #[.int .i64 9, .int .i64 10] 42))
  have BX0 := Aside0.mk (blk_new w (.cells #[.int .i64 9, .int .i64 10] 42))
  generalize w.alloc (.cells #[.int .i64 9, .int .i64 10] 42) = W0 at HB0 BX0 ⊢
  generalize w.heap.size = g0 at BX0 ⊢

  refine (dr_Narrow.calls 9 9 10 2 5 20 45 true 0 _ v_nar1).mono ?_
  rintro e W1 ⟨rfl, hb⟩
  have HB1 := Aside0.mk (below_step HB0.out hb)
  have BX1 := Aside0.mk (blk_below BX0.out hb)
  have r0 : W1.cell? ⟨g0, 0, none⟩ = some (.int .i64 9) := (blk_cell BX1.out 0).trans rfl
  have r1 : W1.cell? ⟨g0, 1, none⟩ = some (.int .i64 10) := (blk_cell BX1.out 1).trans rfl
  clear hb
  go_wp2_with fail
  clear r0 r1
  refine (dr_Narrow.calls 9 9 10 3 (-1) 30 (-1) true 0 _ v_nar2).mono ?_
  rintro e W2 ⟨rfl, hb⟩
  have HB2 := Aside0.mk (below_step HB1.out hb)
  have BX2 := Aside0.mk (blk_below BX1.out hb)
  have r0 : W2.cell? ⟨g0, 0, none⟩ = some (.int .i64 9) := (blk_cell BX2.out 0).trans rfl
  have r1 : W2.cell? ⟨g0, 1, none⟩ = some (.int .i64 10) := (blk_cell BX2.out 1).trans rfl
  clear hb
  go_wp2_with fail
  clear r0 r1
  refine (dr_Narrow.calls 9 9 10 5 5 0 0 false 0 _ v_nar3).mono ?_
  rintro e W3 ⟨rfl, hb⟩
  have HB3 := Aside0.mk (below_step HB2.out hb)
  have BX3 := Aside0.mk (blk_below BX2.out hb)
  have r0 : W3.cell? ⟨g0, 0, none⟩ = some (.int .i64 9) := (blk_cell BX3.out 0).trans rfl
  have r1 : W3.cell? ⟨g0, 1, none⟩ = some (.int .i64 10) := (blk_cell BX3.out 1).trans rfl
  clear hb
  go_wp2_with fail
  clear r0 r1
  refine (dr_Real.calls 9 10 45 5 5 true 0 _ v_real1).mono ?_
  rintro e W4 ⟨rfl, hb⟩
  have HB4 := Aside0.mk (below_step HB3.out hb)
  have BX4 := Aside0.mk (blk_below BX3.out hb)
  have r0 : W4.cell? ⟨g0, 0, none⟩ = some (.int .i64 9) := (blk_cell BX4.out 0).trans rfl
  have r1 : W4.cell? ⟨g0, 1, none⟩ = some (.int .i64 10) := (blk_cell BX4.out 1).trans rfl
  clear hb
  go_wp2_with fail
  clear r0 r1
  refine (dr_Real.calls 9 10 8 0 0 false 0 _ v_real2).mono ?_
  rintro e W5 ⟨rfl, hb⟩
  have HB5 := Aside0.mk (below_step HB4.out hb)
  have BX5 := Aside0.mk (blk_below BX4.out hb)
  have r0 : W5.cell? ⟨g0, 0, none⟩ = some (.int .i64 9) := (blk_cell BX5.out 0).trans rfl
  have r1 : W5.cell? ⟨g0, 1, none⟩ = some (.int .i64 10) := (blk_cell BX5.out 1).trans rfl
  clear hb
  go_wp2_with fail
  clear r0 r1
  refine (ex_any _).mono ?_
  rintro e W6 ⟨A0, c0, A1, c1, rfl, hx, hb⟩
  have HB6 := Aside0.mk (below_step HB5.out hb)
  have HX := Aside0.mk hx
  clear hx
  clear hb
  go_wp2_with fail
  refine (dr_Binds.calls A0 c0 R0 A1 c1 E0 L0 0 _ HX.out.1 HX.out.2.1 HX.out.2.2.1 HX.out.2.2.2 v_binds).mono ?_
  rintro e W7 ⟨v, rfl, hR, hb⟩
  have HB7 := Aside0.mk (below_step HB6.out hb)
  obtain ⟨A, c, rfl, hc, hC⟩ := Kd.R_reads hR
  have HC := Aside0.mk hC
  have HCC := Aside0.mk hc
  clear hR hC hc HX
  clear hb
  go_wp2_with fail
  have HBn := Aside0.mk (below_alloc HB7.out (.cells #[.int .i64 0, .int .i64 2, .int .i64 1, .int .i64 2, .int .i64 0, .int .i64 0, .int .i64 3, .int .i64 4, .int .i64 2, .int .i64 4, .int .i64 3, .int .i64 0, .int .i64 0, .int .i64 1, .int .i64 5, .int .i64 1, .int .i64 0, .int .i64 (-5), .int .i64 2, .int .i64 3, .int .i64 10, .int .i64 3, .int .i64 2, .int .i64 (-9), .int .i64 1, .int .i64 0, .int .i64 0, .int .i64 2, .int .i64 0, .int .i64 0, .int .i64 3, .int .i64 0, .int .i64 0, .int .i64 4, .int .i64 0, .int .i64 0] 27))
  have HCn := Aside0.mk (Kd.C_below HC.out (below_alloc (Below.refl _ W7) (.cells #[.int .i64 0, .int .i64 2, .int .i64 1, .int .i64 2, .int .i64 0, .int .i64 0, .int .i64 3, .int .i64 4, .int .i64 2, .int .i64 4, .int .i64 3, .int .i64 0, .int .i64 0, .int .i64 1, .int .i64 5, .int .i64 1, .int .i64 0, .int .i64 (-5), .int .i64 2, .int .i64 3, .int .i64 10, .int .i64 3, .int .i64 2, .int .i64 (-9), .int .i64 1, .int .i64 0, .int .i64 0, .int .i64 2, .int .i64 0, .int .i64 0, .int .i64 3, .int .i64 0, .int .i64 0, .int .i64 4, .int .i64 0, .int .i64 0] 27)))
  have HLn := Aside0.mk (blk_new W7 (.cells #[.int .i64 0, .int .i64 2, .int .i64 1, .int .i64 2, .int .i64 0, .int .i64 0, .int .i64 3, .int .i64 4, .int .i64 2, .int .i64 4, .int .i64 3, .int .i64 0, .int .i64 0, .int .i64 1, .int .i64 5, .int .i64 1, .int .i64 0, .int .i64 (-5), .int .i64 2, .int .i64 3, .int .i64 10, .int .i64 3, .int .i64 2, .int .i64 (-9), .int .i64 1, .int .i64 0, .int .i64 0, .int .i64 2, .int .i64 0, .int .i64 0, .int .i64 3, .int .i64 0, .int .i64 0, .int .i64 4, .int .i64 0, .int .i64 0] 27))
  generalize W7.alloc (.cells #[.int .i64 0, .int .i64 2, .int .i64 1, .int .i64 2, .int .i64 0, .int .i64 0, .int .i64 3, .int .i64 4, .int .i64 2, .int .i64 4, .int .i64 3, .int .i64 0, .int .i64 0, .int .i64 1, .int .i64 5, .int .i64 1, .int .i64 0, .int .i64 (-5), .int .i64 2, .int .i64 3, .int .i64 10, .int .i64 3, .int .i64 2, .int .i64 (-9), .int .i64 1, .int .i64 0, .int .i64 0, .int .i64 2, .int .i64 0, .int .i64 0, .int .i64 3, .int .i64 0, .int .i64 0, .int .i64 4, .int .i64 0, .int .i64 0] 27) = Wn at HBn HCn HLn ⊢
  generalize W7.heap.size = gn at HLn ⊢
  refine (rf_SameBinds.calls 60 A c L0 (some ⟨gn, 0, none⟩) 12 L0 true _ HCn.out HCC.out (len12 HLn.out) (by decide) v_same).mono ?_
  rintro e W8 ⟨rfl, hb⟩
  have HB8 := Aside0.mk (below_step HBn.out hb.below)
  clear hb HBn HCn HLn HC HCC
  go_wp2_with fail
  refine (ex_any _).mono ?_
  rintro e W9 ⟨A0, c0, A1, c1, rfl, hx, hb⟩
  have HB9 := Aside0.mk (below_step HB8.out hb)
  have HX := Aside0.mk hx
  clear hx
  clear hb
  go_wp2_with fail
  refine (dr_Earliest.calls A0 c0 R0 A1 c1 E0 T0 true 0 _ HX.out.1 HX.out.2.1 HX.out.2.2.1 HX.out.2.2.2 v_earl).mono ?_
  rintro e W10 ⟨v, rfl, hR, hb⟩
  have HB10 := Aside0.mk (below_step HB9.out hb)
  obtain ⟨A, c, rfl, hc, hC⟩ := Kd.R_reads hR
  have HC := Aside0.mk hC
  have HCC := Aside0.mk hc
  clear hR hC hc HX
  clear hb
  go_wp2_with fail
  have HBn := Aside0.mk (below_alloc HB10.out (.cells #[.int .i64 0, .int .i64 5, .int .i64 0, .int .i64 9, .int .i64 9] 3))
  have HCn := Aside0.mk (Kd.C_below HC.out (below_alloc (Below.refl _ W10) (.cells #[.int .i64 0, .int .i64 5, .int .i64 0, .int .i64 9, .int .i64 9] 3)))
  have HLn := Aside0.mk (blk_new W10 (.cells #[.int .i64 0, .int .i64 5, .int .i64 0, .int .i64 9, .int .i64 9] 3))
  generalize W10.alloc (.cells #[.int .i64 0, .int .i64 5, .int .i64 0, .int .i64 9, .int .i64 9] 3) = Wn at HBn HCn HLn ⊢
  generalize W10.heap.size = gn at HLn ⊢
  refine (rf_SameInts.calls 60 A c T0 (some ⟨gn, 0, none⟩) 5 T0 true _ HCn.out HCC.out (c_ints (xs := T0) HLn.out (by decide)) (by decide) v_ints).mono ?_
  rintro e W11 ⟨rfl, hb⟩
  have HB11 := Aside0.mk (below_step HBn.out hb.below)
  clear hb HBn HCn HLn HC HCC
  go_wp2_with fail
  refine (ex_any _).mono ?_
  rintro e W12 ⟨A0, c0, A1, c1, rfl, hx, hb⟩
  have HB12 := Aside0.mk (below_step HB11.out hb)
  have HX := Aside0.mk hx
  clear hx
  clear hb
  go_wp2_with fail
  refine (dr_Tight.calls A0 c0 R0 A1 c1 E0 0 4 13 P0 true 0 _ HX.out.1 HX.out.2.1 HX.out.2.2.1 HX.out.2.2.2 v_tight).mono ?_
  rintro e W13 ⟨v, rfl, hR, hb⟩
  have HB13 := Aside0.mk (below_step HB12.out hb)
  clear hR HX
  clear hb
  go_wp2_with fail
  refine (ex_any _).mono ?_
  rintro e W14 ⟨A0, c0, A1, c1, rfl, hx, hb⟩
  have HB14 := Aside0.mk (below_step HB13.out hb)
  have HX := Aside0.mk hx
  clear hx
  clear hb
  go_wp2_with fail
  have HBn := Aside0.mk (below_alloc HB14.out (.cells #[.int .i64 0, .int .i64 6, .int .i64 2] 3))
  have HXn := Aside0.mk (Kd.C_below HX.out.1 (below_alloc (Below.refl _ W14) (.cells #[.int .i64 0, .int .i64 6, .int .i64 2] 3)))
  have HYn := Aside0.mk (Kd.C_below HX.out.2.2.1 (below_alloc (Below.refl _ W14) (.cells #[.int .i64 0, .int .i64 6, .int .i64 2] 3)))
  have HLn := Aside0.mk (blk_new W14 (.cells #[.int .i64 0, .int .i64 6, .int .i64 2] 3))
  generalize W14.alloc (.cells #[.int .i64 0, .int .i64 6, .int .i64 2] 3) = Wn at HBn HXn HYn HLn ⊢
  generalize W14.heap.size = gn at HLn ⊢
  refine (dr_CheckTight.calls A0 c0 R0 A1 c1 E0 0 4 13 (some ⟨gn, 0, none⟩) 3 P0 0 _ HXn.out HX.out.2.1 HYn.out HX.out.2.2.2 (c_ints (xs := P0) HLn.out (by decide)) (by decide) v_ctight).mono ?_
  rintro e W15 ⟨rfl, hb⟩
  have HB15 := Aside0.mk (below_step HBn.out hb)
  clear hb HBn HXn HYn HLn HX
  go_wp2_with fail
  refine (ex_any _).mono ?_
  rintro e W16 ⟨A0, c0, A1, c1, rfl, hx, hb⟩
  have HB16 := Aside0.mk (below_step HB15.out hb)
  have HX := Aside0.mk hx
  clear hx
  clear hb
  go_wp2_with fail
  have HBn := Aside0.mk (below_alloc HB16.out (.cells #[.int .i64 1, .int .i64 3, .int .i64 4, .int .i64 6, .int .i64 1, .int .i64 4, .int .i64 4, .int .i64 7] 56))
  have HXn := Aside0.mk (Kd.C_below HX.out.1 (below_alloc (Below.refl _ W16) (.cells #[.int .i64 1, .int .i64 3, .int .i64 4, .int .i64 6, .int .i64 1, .int .i64 4, .int .i64 4, .int .i64 7] 56)))
  have HYn := Aside0.mk (Kd.C_below HX.out.2.2.1 (below_alloc (Below.refl _ W16) (.cells #[.int .i64 1, .int .i64 3, .int .i64 4, .int .i64 6, .int .i64 1, .int .i64 4, .int .i64 4, .int .i64 7] 56)))
  have HLn := Aside0.mk (blk_new W16 (.cells #[.int .i64 1, .int .i64 3, .int .i64 4, .int .i64 6, .int .i64 1, .int .i64 4, .int .i64 4, .int .i64 7] 56))
  generalize W16.alloc (.cells #[.int .i64 1, .int .i64 3, .int .i64 4, .int .i64 6, .int .i64 1, .int .i64 4, .int .i64 4, .int .i64 7] 56) = Wn at HBn HXn HYn HLn ⊢
  generalize W16.heap.size = gn at HLn ⊢
  refine (dr_Holds.calls A0 c0 R0 A1 c1 E0 (some ⟨gn, 0, none⟩) 2 D0 1 0 _ HXn.out HX.out.2.1 HYn.out HX.out.2.2.2 (len2 HLn.out) (by decide) v_holds).mono ?_
  rintro e W17 ⟨rfl, hb⟩
  have HB17 := Aside0.mk (below_step HBn.out hb)
  clear hb HBn HXn HYn HLn HX
  go_wp2_with fail
  go_ret
  exact ⟨rfl, HB17.out⟩
end Go.Proofs.Ytlfopemghafboaa.D
