/- The contract of the law DriftNarrow and of the function literal in it, by a walk through their code. No condition beyond each theorem's own hypotheses. -/
import Derived.Test.YtlfopemghafboaaDx7
import Derived.Test.YtlfopemghafboaaDx8
import Derived.Test.YtlfopemghafboaaDsane
import Derived.WalkSpells
import Derived.Handy
import Derived.StillTailTactics
import Derived.IntWalk
import Derived.Deep.LoopGhost
import Derived.Deep.RegionWith
import Derived.Deep.RegionHeld3
import Derived.Shelf.Abstract
namespace Go.Proofs.Ytlfopemghafboaa.D
open Go.RowKit Go.Proofs.YtlfopemghafboaaW.PrintWords Go.Proofs.YtlfopemghafboaaW.PrintLast Go.Proofs.YtlfopemghafboaaW.PrintMore
set_option linter.unusedVariables false
set_option linter.unusedSimpArgs false
def withinB (is : Bool) (a b hi n : Int) : Bool := is && decide (n ≥ a) && ((hi == -1) || decide (n ≤ b))
set_option maxHeartbeats 1600000 in
set_option maxRecDepth 100000 in
theorem within_any (n a b hi : Int) (is : Bool) (g1 g2 g3 g4 : Nat) (w : World) (h1 : w.cell? ⟨g1, 0, none⟩ = some (.bool is)) (h2 : w.cell? ⟨g2, 0, none⟩ = some (.int .i64 a)) (h3 : w.cell? ⟨g3, 0, none⟩ = some (.int .i64 hi)) (h4 : w.cell? ⟨g4, 0, none⟩ = some (.int .i64 b)) :
    Calls Try.prog 25 #[.int .i64 n, .pointer (some ⟨g1, 0, none⟩), .pointer (some ⟨g2, 0, none⟩), .pointer (some ⟨g3, 0, none⟩), .pointer (some ⟨g4, 0, none⟩)] w fun e w' => e = .returned (.bool (withinB is a b hi n)) ∧ Below w.heap.size w w' := by
  unfold withinB
  cases is
  · go_enter Try.func25, Try.ntmps25
    go_wp2_with fail
    go_ret
    exact ⟨rfl, Below.refl _ _⟩
  · cases c1 : decide (n ≥ a)
    · go_enter Try.func25, Try.ntmps25
      go_wp2_with fail
      go_ret
      exact ⟨rfl, Below.refl _ _⟩
    · cases c2 : (hi == -1)
      · go_enter Try.func25, Try.ntmps25
        go_wp2_with fail
        go_ret
        exact ⟨rfl, Below.refl _ _⟩
      · go_enter Try.func25, Try.ntmps25
        go_wp2_with fail
        go_ret
        exact ⟨rfl, Below.refl _ _⟩

structure NBox (w0 W : World) (gr gh ga gb gi : Nat) (s f hi a b : Int) (is : Bool) : Prop where
  r : W.heap[gr]? = some (.cells #[.int .i64 s, .int .i64 f] 42 (0, 0))
  h : W.heap[gh]? = some (.cells #[.int .i64 hi] 3 (0, 0))
  a : W.heap[ga]? = some (.cells #[.int .i64 a] 3 (0, 0))
  b : W.heap[gb]? = some (.cells #[.int .i64 b] 3 (0, 0))
  i : W.heap[gi]? = some (.cells #[.bool is] 4 (0, 0))
  lt : (gr < gh ∧ gh < ga) ∧ (ga < gb ∧ gb < gi)
  ge : w0.heap.size ≤ gr
  bel : Below w0.heap.size w0 W
section
variable {w0 W W' : World} {gr gh ga gb gi : Nat} {s f hi a b : Int} {is : Bool}
theorem NBox.below (h : NBox w0 W gr gh ga gb gi s f hi a b is) (hb : Below W.heap.size W W') : NBox w0 W' gr gh ga gb gi s f hi a b is :=
  ⟨blk_below h.r hb, blk_below h.h hb, blk_below h.a hb, blk_below h.b hb, blk_below h.i hb, h.lt, h.ge, below_step h.bel hb⟩
theorem NBox.drew (h : NBox w0 W gr gh ga gb gi s f hi a b is) : NBox w0 W.drew gr gh ga gb gi s f hi a b is :=
  ⟨blk_drew h.r, blk_drew h.h, blk_drew h.a, blk_drew h.b, blk_drew h.i, h.lt, h.ge, below_drew1 h.bel⟩
theorem NBox.setA (h : NBox w0 W gr gh ga gb gi s f hi a b is) (x : Int) : NBox w0 (W.setCell ⟨ga, 0, none⟩ (.int .i64 x)) gr gh ga gb gi s f hi x b is := by
  obtain ⟨⟨l1, l2⟩, l3, l4⟩ := h.lt
  have g := h.ge
  exact ⟨blk_far h.r (by simp only; omega) _, blk_far h.h (by simp only; omega) _, one_setCell h.a, blk_far h.b (by simp only; omega) _, blk_far h.i (by simp only; omega) _, h.lt, h.ge, below_set h.bel (by omega)⟩
theorem NBox.setB (h : NBox w0 W gr gh ga gb gi s f hi a b is) (x : Int) : NBox w0 (W.setCell ⟨gb, 0, none⟩ (.int .i64 x)) gr gh ga gb gi s f hi a x is := by
  obtain ⟨⟨l1, l2⟩, l3, l4⟩ := h.lt
  have g := h.ge
  exact ⟨blk_far h.r (by simp only; omega) _, blk_far h.h (by simp only; omega) _, blk_far h.a (by simp only; omega) _, one_setCell h.b, blk_far h.i (by simp only; omega) _, h.lt, h.ge, below_set h.bel (by omega)⟩
theorem NBox.setI (h : NBox w0 W gr gh ga gb gi s f hi a b is) (x : Bool) : NBox w0 (W.setCell ⟨gi, 0, none⟩ (.bool x)) gr gh ga gb gi s f hi a b x := by
  obtain ⟨⟨l1, l2⟩, l3, l4⟩ := h.lt
  have g := h.ge
  exact ⟨blk_far h.r (by simp only; omega) _, blk_far h.h (by simp only; omega) _, blk_far h.a (by simp only; omega) _, blk_far h.b (by simp only; omega) _, one_setCell h.i, h.lt, h.ge, below_set h.bel (by omega)⟩
theorem NBox.cells (h : NBox w0 W gr gh ga gb gi s f hi a b is) : (W.cell? ⟨gr, 0, none⟩ = some (.int .i64 s) ∧ W.cell? ⟨gr, 1, none⟩ = some (.int .i64 f)) ∧ W.cell? ⟨gh, 0, none⟩ = some (.int .i64 hi) ∧ W.cell? ⟨ga, 0, none⟩ = some (.int .i64 a) ∧ W.cell? ⟨gb, 0, none⟩ = some (.int .i64 b) ∧ W.cell? ⟨gi, 0, none⟩ = some (.bool is) :=
  ⟨⟨(blk_cell h.r 0).trans rfl, (blk_cell h.r 1).trans rfl⟩, (blk_cell h.h 0).trans rfl, (blk_cell h.a 0).trans rfl, (blk_cell h.b 0).trans rfl, (blk_cell h.i 0).trans rfl⟩
theorem nbox_mk {w0 w5 w6 w7 w8 : World} (hr : w5.heap[gr]? = some (.cells #[.int .i64 s, .int .i64 f] 42 (0, 0))) (hh : w5.heap[gh]? = some (.cells #[.int .i64 hi] 3 (0, 0))) (l : gr < gh) (g : w0.heap.size ≤ gr) (hb : Below w0.heap.size w0 w5)
    (ea : ga = w5.heap.size) (ha : w6.heap[ga]? = some (.cells #[.int .i64 0] 3 (0, 0))) (b6 : Below w5.heap.size w5 w6)
    (eb : gb = w6.heap.size) (hb' : w7.heap[gb]? = some (.cells #[.int .i64 0] 3 (0, 0))) (b7 : Below w6.heap.size w6 w7)
    (ei : gi = w7.heap.size) (hi' : w8.heap[gi]? = some (.cells #[.bool false] 4 (0, 0))) (b8 : Below w7.heap.size w7 w8) : NBox w0 w8 gr gh ga gb gi s f hi 0 0 false := by
  have l1 := blk_lt hh
  have l2 := blk_lt ha
  have l3 := blk_lt hb'
  exact ⟨blk_below (blk_below (blk_below hr b6) b7) b8, blk_below (blk_below (blk_below hh b6) b7) b8, blk_below (blk_below ha b7) b8, blk_below hb' b8, hi', ⟨⟨l, by omega⟩, by omega, by omega⟩, g, below_step (below_step (below_step hb b6) b7) b8⟩
end

set_option maxHeartbeats 3200000 in
set_option maxRecDepth 100000 in
theorem narrow_early (s f : Int) (A : Option Addr) (c : Nat) (l : List S82) (lo hi ticks cc : Int) (w : World) (hr : Kd.C k82 w A l.length l) (hc : l.length ≤ c) (n : Nat) (hcc : rf_CheckClock.f n s f l = some cc)
    (h : (cc != 0) = true ∨ ((cc != 0) = false ∧ decide ((l.length : Int) > 40) = true) ∨ (((cc != 0) = false ∧ decide ((l.length : Int) > 40) = false) ∧ (decide (lo < 0) = true ∨ (decide (lo < 0) = false ∧ decide (lo > 1000000) = true) ∨ ((decide (lo < 0) = false ∧ decide (lo > 1000000) = false) ∧
      (((hi != -1) = true ∧ decide (hi < lo) = true) ∨ ((hi != -1) = true ∧ decide (hi < lo) = false ∧ decide (hi > 1000000) = true) ∨ (((hi != -1) = false ∨ ((hi != -1) = true ∧ decide (hi < lo) = false ∧ decide (hi > 1000000) = false)) ∧ (decide (ticks < 0) = true ∨ (decide (ticks < 0) = false ∧ decide (ticks > 1000000000000) = true)))))))) :
    Calls Try.prog 4 #[.agg #[.int .i64 s, .int .i64 f], .slice A l.length c, .int .i64 lo, .int .i64 hi, .int .i64 ticks] w fun e w' => e = .returned (.bool true) ∧ Below w.heap.size w w' := by
  have HR := Aside0.mk hr
  have HC := Aside0.mk hc
  have HCC := Aside0.mk hcc
  clear hr hc hcc
  rcases h with c0 | ⟨c0, c1⟩ | ⟨⟨c0, c1⟩, c2 | ⟨c2, c3⟩ | ⟨⟨c2, c3⟩, ⟨c4, c5⟩ | ⟨c4, c5, c6⟩ | ⟨c4 | ⟨c4, c5, c6⟩, c7 | ⟨c7, c8⟩⟩⟩⟩ <;> (
    go_enter Try.func4, Try.ntmps4
    go_wp2_with (first
      | ((with_reducible refine gate_dst (N := 5) rfl ?_); refine box_event ?hg (N := 5) ?hd (cs := #[.int .i64 s, .int .i64 f]) (t := 42) ?hr ?_; (case hd => rfl); (case hg => rfl); (case hr => first | (go_simp; done) | (go_simp; rfl)); intro gr hgr w2 hboxr hb; have HB := Aside0.mk hb; have BR := Aside0.mk hboxr; have HGR := Aside0.mk hgr; clear hb hboxr hgr)
      | ((with_reducible refine gate_dst (N := 8) rfl ?_); refine box_event ?hg (N := 8) ?hd (cs := #[.int .i64 hi]) (t := 3) ?hr ?_; (case hd => rfl); (case hg => rfl); (case hr => first | (go_simp; done) | (go_simp; rfl)); intro gh hgh w3 hboxh hb3; have HB3 := Aside0.mk (below_step HB.out hb3); have BR3 := Aside0.mk (blk_below BR.out hb3); have BH := Aside0.mk hboxh; have HGL : Aside0 (gr < gh) := ⟨by have l_ := blk_lt BR.out; omega⟩; clear hb3 hboxh hgh)
      | (go_at_call 15; refine (lw_sane.calls true _ rfl).mono ?_; rintro e w4 ⟨rfl, hb4⟩; have HB4 := Aside0.mk (below_step HB3.out hb4); have BR4 := Aside0.mk (blk_below BR3.out hb4); have BH4 := Aside0.mk (blk_below BH.out hb4); have r0 : w4.cell? ⟨gr, 0, none⟩ = some (.int .i64 s) := (blk_cell BR4.out 0).trans rfl; have r1 : w4.cell? ⟨gr, 1, none⟩ = some (.int .i64 f) := (blk_cell BR4.out 1).trans rfl; clear hb4)
      | (go_at_call 23; refine (rf_CheckClock.calls n s f A c l cc _ (Kd.C_below HR.out HB4.out) HC.out HCC.out).mono ?_; rintro e w5 ⟨rfl, hb5⟩; have HB5 := Aside0.mk (below_step HB4.out hb5); have BR5 := Aside0.mk (blk_below BR4.out hb5); have BH5 := Aside0.mk (blk_below BH4.out hb5); have q0 : w5.cell? ⟨gr, 0, none⟩ = some (.int .i64 s) := (blk_cell BR5.out 0).trans rfl; have q1 : w5.cell? ⟨gr, 1, none⟩ = some (.int .i64 f) := (blk_cell BR5.out 1).trans rfl; have q2 : w5.cell? ⟨gh, 0, none⟩ = some (.int .i64 hi) := (blk_cell BH5.out 0).trans rfl; clear hb5))
    go_ret
    exact ⟨rfl, HB5.out⟩)
set_option maxHeartbeats 3200000 in
set_option maxRecDepth 100000 in
theorem narrow_main (s f : Int) (A : Option Addr) (c : Nat) (l : List S82) (lo hi ticks : Int) (w : World) (hr : Kd.C k82 w A l.length l) (hc : l.length ≤ c) (n : Nat) (hcc : rf_CheckClock.f n s f l = some 0) (a b : Int) (is : Bool) (hn : dr_Narrow.f n s f lo hi = some (a, b, is, 0))
    (c1 : decide ((l.length : Int) > 40) = false) (c2 : decide (lo < 0) = false) (c3 : decide (lo > 1000000) = false) (h : (hi != -1) = false ∨ ((hi != -1) = true ∧ decide (hi < lo) = false ∧ decide (hi > 1000000) = false)) (c7 : decide (ticks < 0) = false) (c8 : decide (ticks > 1000000000000) = false)
    (hloop : ∀ i k : Nat, i ≤ k → k < l.length → withinB is a b hi (wrap64 ((rd_T82 l k).f1 - (rd_T82 l i).f1)) = true → decide (wrap64 ((rd_T82 l k).f0 - (rd_T82 l i).f0) < lo) = false ∧ ((hi != -1) = true → decide (wrap64 ((rd_T82 l k).f0 - (rd_T82 l i).f0) > hi) = false))
    (hend : withinB is a b hi ticks = false → (decide (ticks < wrap64 (f * lo)) = true ∨ (decide (ticks < wrap64 (f * lo)) = false ∧ (hi != -1) = true ∧ decide (ticks > wrap64 (s * hi)) = true)))
    (hreal : withinB is a b hi ticks = true → ∃ cr dr can, dr_Real.f s f ticks = some (cr, dr, can, 0) ∧ (can = false ∨ (can = true ∧ decide (cr ≤ dr) = true ∧ decide (cr ≥ lo) = true ∧ ((hi == -1) = true ∨ ((hi == -1) = false ∧ decide (dr ≤ hi) = true))))) :
    Calls Try.prog 4 #[.agg #[.int .i64 s, .int .i64 f], .slice A l.length c, .int .i64 lo, .int .i64 hi, .int .i64 ticks] w fun e w' => e = .returned (.bool true) ∧ Below w.heap.size w w' := by
  have HR := Aside0.mk hr
  have HC := Aside0.mk hc
  have HCC := Aside0.mk hcc
  have HN := Aside0.mk hn
  clear hr hc hcc hn
  have HLOOP := Aside0.mk hloop
  have HEND := Aside0.mk hend
  have HREAL := Aside0.mk hreal
  have hlen : l.length ≤ 40 := by simp at c1; omega
  clear hloop hend hreal
  rcases h with c4 | ⟨c4, c5, c6⟩ <;> (
    go_enter Try.func4, Try.ntmps4
    go_wp2_with (first
      | ((with_reducible refine gate_dst (N := 5) rfl ?_); refine box_event ?hg (N := 5) ?hd (cs := #[.int .i64 s, .int .i64 f]) (t := 42) ?hr ?_; (case hd => rfl); (case hg => rfl); (case hr => first | (go_simp; done) | (go_simp; rfl)); intro gr hgr w2 hboxr hb; have HB := Aside0.mk hb; have BR := Aside0.mk hboxr; have HGR := Aside0.mk hgr; clear hb hboxr hgr)
      | ((with_reducible refine gate_dst (N := 8) rfl ?_); refine box_event ?hg (N := 8) ?hd (cs := #[.int .i64 hi]) (t := 3) ?hr ?_; (case hd => rfl); (case hg => rfl); (case hr => first | (go_simp; done) | (go_simp; rfl)); intro gh hgh w3 hboxh hb3; have HB3 := Aside0.mk (below_step HB.out hb3); have BR3 := Aside0.mk (blk_below BR.out hb3); have BH := Aside0.mk hboxh; have HGL : Aside0 (gr < gh) := ⟨by have l_ := blk_lt BR.out; omega⟩; clear hb3 hboxh hgh)
      | (go_at_call 15; refine (lw_sane.calls true _ rfl).mono ?_; rintro e w4 ⟨rfl, hb4⟩; have HB4 := Aside0.mk (below_step HB3.out hb4); have BR4 := Aside0.mk (blk_below BR3.out hb4); have BH4 := Aside0.mk (blk_below BH.out hb4); have r0 : w4.cell? ⟨gr, 0, none⟩ = some (.int .i64 s) := (blk_cell BR4.out 0).trans rfl; have r1 : w4.cell? ⟨gr, 1, none⟩ = some (.int .i64 f) := (blk_cell BR4.out 1).trans rfl; clear hb4)
      | (go_at_call 23; refine (rf_CheckClock.calls n s f A c l 0 _ (Kd.C_below HR.out HB4.out) HC.out HCC.out).mono ?_; rintro e w5 ⟨rfl, hb5⟩; have HB5 := Aside0.mk (below_step HB4.out hb5); have BR5 := Aside0.mk (blk_below BR4.out hb5); have BH5 := Aside0.mk (blk_below BH4.out hb5); have q0 : w5.cell? ⟨gr, 0, none⟩ = some (.int .i64 s) := (blk_cell BR5.out 0).trans rfl; have q1 : w5.cell? ⟨gr, 1, none⟩ = some (.int .i64 f) := (blk_cell BR5.out 1).trans rfl; have q2 : w5.cell? ⟨gh, 0, none⟩ = some (.int .i64 hi) := (blk_cell BH5.out 0).trans rfl; clear hb5)
      | (go_at_call 24; refine (dr_Narrow.calls n s f lo hi a b is 0 _ HN.out).mono ?_; rintro e w6 ⟨rfl, hb6⟩; have HB6 := Aside0.mk (below_step HB5.out hb6); have BR6 := Aside0.mk (blk_below BR5.out hb6); have BH6 := Aside0.mk (blk_below BH5.out hb6); clear hb6)
      | ((with_reducible refine gate_dst (N := 11) rfl ?_); refine box_event ?hg (N := 11) ?hd (cs := #[.int .i64 0]) (t := 3) ?hr ?_; (case hd => rfl); (case hg => rfl); (case hr => first | (go_simp; done) | (go_simp; rfl)); intro ga hga w7 hboxa hb7)
      | ((with_reducible refine gate_dst (N := 12) rfl ?_); refine box_event ?hg (N := 12) ?hd (cs := #[.int .i64 0]) (t := 3) ?hr ?_; (case hd => rfl); (case hg => rfl); (case hr => first | (go_simp; done) | (go_simp; rfl)); intro gb hgb w8 hboxb hb8)
      | ((with_reducible refine gate_dst (N := 13) rfl ?_); refine box_event ?hg (N := 13) ?hd (cs := #[.bool false]) (t := 4) ?hr ?_; (case hd => rfl); (case hg => rfl); (case hr => first | (go_simp; done) | (go_simp; rfl)); intro gi hgi w9 hboxi hb9; have NB := nbox_mk BR6.out BH6.out HGL.out (Nat.le_of_eq HGR.out.symm) HB6.out hga hboxa hb7 hgb hboxb hb8 hgi hboxi hb9; clear hga hboxa hb7 hgb hboxb hb8 hgi hboxi hb9; obtain ⟨⟨n0, n1⟩, n2, n3, n4, n5⟩ := NB.cells; have f3 := blk_frozen NB.a 0; have f4 := blk_frozen NB.b 0; have f5 := blk_frozen NB.i 0; have e1_ : ¬ ga = gb := (by have := NB.lt; omega); have e2_ : ¬ gb = ga := (by have := NB.lt; omega); have e3_ : ¬ ga = gi := (by have := NB.lt; omega); have e4_ : ¬ gi = ga := (by have := NB.lt; omega); have e5_ : ¬ gb = gi := (by have := NB.lt; omega); have e6_ : ¬ gi = gb := (by have := NB.lt; omega); have NBc := Aside0.mk NB; clear NB))
    have NBd := Aside0.mk (((NBc.out.setA a).setB b).setI is)
    clear n0 n1 n2 n3 n4 n5 f3 f4 f5 e1_ e2_ e3_ e4_ e5_ e6_ NBc q0 q1 q2 r0 r1
    generalize ((w9.setCell _ _).setCell _ _).setCell _ _ = wL at NBd ⊢
    go_loopw [16] (fun v16 wr => ∃ i : Nat, v16 = .int .i64 (i : Int) ∧ i ≤ l.length ∧ Aside0 (NBox w wr gr gh ga gb gi s f hi a b is)) (fun v16 wr => l.length - (intOf v16).toNat)
    case atStart => exact ⟨0, rfl, by omega, NBd⟩
    case round =>
      clear NBd
      obtain ⟨i, rfl, hi1, NBr⟩ := hrel
      by_cases hlt : i < l.length
      · have hltb : decide ((i : Int) < (l.length : Int)) = true := by simpa using hlt
        obtain ⟨wo, hwo⟩ : ∃ wo : World, wo = wr := ⟨_, rfl⟩
        subst hwo
        go_wp2_with fail
        go_loopw [17] (fun v17 wr2 => ∃ k : Nat, v17 = .int .i64 (k : Int) ∧ (i ≤ k ∧ k ≤ l.length) ∧ Aside0 (NBox w wr2 gr gh ga gb gi s f hi a b is)) (fun v17 wr2 => l.length - (intOf v17).toNat)
        case atStart => exact ⟨i, rfl, by omega, NBr⟩
        case round =>
          clear NBr
          obtain ⟨k, rfl, hk1, NBk⟩ := hrel
          by_cases hkt : k < l.length
          · have hktb : decide ((k : Int) < (l.length : Int)) = true := by simpa using hkt
            obtain ⟨wp, hwp⟩ : ∃ wp : World, wp = wr := ⟨_, rfl⟩
            subst hwp
            have hL := HLOOP.out i k hk1.1 hkt
            have hg : lw_gap.f l (i : Int) (k : Int) = some (wrap64 ((rd_T82 l k).f0 - (rd_T82 l i).f0), wrap64 ((rd_T82 l k).f1 - (rd_T82 l i).f1)) := by
              unfold lw_gap.f
              rw [if_pos (by omega), if_pos (by omega), if_pos (by omega), if_pos (by omega)]
            have HG := Aside0.mk hg
            generalize wrap64 ((rd_T82 l (k : Int)).f0 - (rd_T82 l (i : Int)).f0) = d at hL HG
            generalize wrap64 ((rd_T82 l (k : Int)).f1 - (rd_T82 l (i : Int)).f1) = made at hL HG
            clear hg
            cases hwt : withinB is a b hi made
            · have HW := Aside0.mk hwt
              clear hL hwt
              go_wp2_with (first
                | (go_at_call 26; refine (lw_gap.calls A c l i k d made _ (Kd.C_below HR.out NBk.out.bel) HC.out HG.out).mono ?_; rintro e wg ⟨rfl, hdr⟩; have NB2 := Aside0.mk (NBk.out.below hdr.below); clear hdr)
                | (go_at_call 25; refine (within_any made a b hi is gi ga gh gb _ NB2.out.cells.2.2.2.2 NB2.out.cells.2.2.1 NB2.out.cells.2.1 NB2.out.cells.2.2.2.1).mono ?_; rintro e wi ⟨rfl, hbi⟩; rw [HW.out]; have NB3 := Aside0.mk (NB2.out.below hbi); obtain ⟨⟨n0, n1⟩, n2, n3, n4, n5⟩ := NB3.out.cells; clear hbi))
              go_roundw
              case rel => exact ⟨k + 1, by go_num, by omega, NB3⟩
              case measure => simp [intOf]; omega
            · have HW := Aside0.mk hwt
              obtain ⟨hd1, hd2⟩ := hL hwt
              clear hL hwt
              cases hh : (hi != -1)
              · first
                | (rw [c4] at hh; cases hh; done)
                | (
                    clear hd2
                    go_wp2_with (first
                    | (go_at_call 26; refine (lw_gap.calls A c l i k d made _ (Kd.C_below HR.out NBk.out.bel) HC.out HG.out).mono ?_; rintro e wg ⟨rfl, hdr⟩; have NB2 := Aside0.mk (NBk.out.below hdr.below); clear hdr)
                    | (go_at_call 25; refine (within_any made a b hi is gi ga gh gb _ NB2.out.cells.2.2.2.2 NB2.out.cells.2.2.1 NB2.out.cells.2.1 NB2.out.cells.2.2.2.1).mono ?_; rintro e wi ⟨rfl, hbi⟩; rw [HW.out]; have NB3 := Aside0.mk (NB2.out.below hbi); obtain ⟨⟨n0, n1⟩, n2, n3, n4, n5⟩ := NB3.out.cells; clear hbi))
                    go_roundw
                    case rel => exact ⟨k + 1, by go_num, by omega, NB3⟩
                    case measure => simp [intOf]; omega)
              · first
                | (rw [c4] at hh; cases hh; done)
                | (
                    have hd3 := hd2 hh
                    clear hd2
                    go_wp2_with (first
                    | (go_at_call 26; refine (lw_gap.calls A c l i k d made _ (Kd.C_below HR.out NBk.out.bel) HC.out HG.out).mono ?_; rintro e wg ⟨rfl, hdr⟩; have NB2 := Aside0.mk (NBk.out.below hdr.below); clear hdr)
                    | (go_at_call 25; refine (within_any made a b hi is gi ga gh gb _ NB2.out.cells.2.2.2.2 NB2.out.cells.2.2.1 NB2.out.cells.2.1 NB2.out.cells.2.2.2.1).mono ?_; rintro e wi ⟨rfl, hbi⟩; rw [HW.out]; have NB3 := Aside0.mk (NB2.out.below hbi); obtain ⟨⟨n0, n1⟩, n2, n3, n4, n5⟩ := NB3.out.cells; clear hbi))
                    go_roundw
                    case rel => exact ⟨k + 1, by go_num, by omega, NB3⟩
                    case measure => simp [intOf]; omega)
          · have hktb : decide ((k : Int) < (l.length : Int)) = false := by simpa using hkt
            go_wp2_with fail
            go_roundw
            case rel => exact ⟨i + 1, by go_num, by omega, NBk⟩
            case measure => simp [intOf]; omega
      · have hltb : decide ((i : Int) < (l.length : Int)) = false := by simpa using hlt
        obtain ⟨wp, hwp⟩ : ∃ wp : World, wp = wr := ⟨_, rfl⟩
        subst hwp
        cases hwt : withinB is a b hi ticks
        · have HW := Aside0.mk hwt
          have hE := HEND.out hwt
          clear hwt
          rcases hE with e1 | ⟨e1, e2, e3⟩
          · go_wp2_with (first
              | (go_at_call 25; refine (within_any ticks a b hi is gi ga gh gb _ NBr.out.cells.2.2.2.2 NBr.out.cells.2.2.1 NBr.out.cells.2.1 NBr.out.cells.2.2.2.1).mono ?_; rintro e wi ⟨rfl, hbi⟩; rw [HW.out]; have NB3 := Aside0.mk (NBr.out.below hbi); obtain ⟨⟨n0, n1⟩, n2, n3, n4, n5⟩ := NB3.out.cells; clear hbi))
            go_ret
            exact ⟨rfl, NB3.out.bel⟩
          · first
            | (rw [c4] at e2; cases e2; done)
            | (
              go_wp2_with (first
                | (go_at_call 25; refine (within_any ticks a b hi is gi ga gh gb _ NBr.out.cells.2.2.2.2 NBr.out.cells.2.2.1 NBr.out.cells.2.1 NBr.out.cells.2.2.2.1).mono ?_; rintro e wi ⟨rfl, hbi⟩; rw [HW.out]; have NB3 := Aside0.mk (NBr.out.below hbi); obtain ⟨⟨n0, n1⟩, n2, n3, n4, n5⟩ := NB3.out.cells; clear hbi))
              go_ret
              exact ⟨rfl, NB3.out.bel⟩)
        · have HW := Aside0.mk hwt
          obtain ⟨cr, dr, can, hre, hcan⟩ := HREAL.out hwt
          have HRE := Aside0.mk hre
          clear hwt hre
          rcases hcan with rfl | ⟨rfl, e1, e2, e3 | ⟨e3, e4⟩⟩ <;> (
            go_wp2_with (first
              | (go_at_call 25; refine (within_any ticks a b hi is gi ga gh gb _ NBr.out.cells.2.2.2.2 NBr.out.cells.2.2.1 NBr.out.cells.2.1 NBr.out.cells.2.2.2.1).mono ?_; rintro e wi ⟨rfl, hbi⟩; rw [HW.out]; have NB3 := Aside0.mk (NBr.out.below hbi); obtain ⟨⟨n0, n1⟩, n2, n3, n4, n5⟩ := NB3.out.cells; clear hbi)
              | (go_at_call 27; refine (dr_Real.calls s f ticks cr dr _ 0 _ HRE.out).mono ?_; rintro e wz ⟨rfl, hbz⟩; have NB4 := Aside0.mk (NB3.out.below hbz); clear n0 n1 n2 n3 n4 n5; obtain ⟨⟨n0, n1⟩, n2, n3, n4, n5⟩ := NB4.out.cells; clear hbz))
            go_ret
            exact ⟨rfl, NB4.out.bel⟩))
end Go.Proofs.Ytlfopemghafboaa.D
