/- Contracts of functions that the law reaches, each a walk through its code. No condition beyond each theorem's own hypotheses. -/
import Derived.Test.YtlfopemghafboaaDh4
import Derived.WalkSpells
import Derived.Handy
import Derived.StillTailTactics
import Derived.IntWalk
import Derived.Shelf.Abstract
namespace Go.Proofs.Ytlfopemghafboaa.D
open Go.RowKit Go.Proofs.YtlfopemghafboaaW.PrintWords Go.Proofs.YtlfopemghafboaaW.PrintLast Go.Proofs.YtlfopemghafboaaW.PrintMore
set_option linter.unusedVariables false
set_option linter.unusedSimpArgs false

theorem en88 (args : Array Value) (w : World) : (callFunc 88 args).run Try.prog w = .ok (.enter 88 args) w := enters_of Try.func88 (by kernel_rfl) rfl args w
set_option maxHeartbeats 1600000 in
theorem chain1_any (i : Int) (gb : Nat) (A : Option Addr) (n c : Nat) (hn : n ≤ 9223372036854775807) (W : World) (hc : W.cell? ⟨gb, 0, none⟩ = some (.slice A n c)) :
    Calls Try.prog 88 #[.int .i64 i, .pointer (some ⟨gb, 0, none⟩)] W fun e W' => e = .returned (.bool (!betweenB i 0 ((n : Int) - 1))) ∧ Below W.heap.size W W' := by
  go_enter Try.func88, Try.ntmps88
  go_wp2_with (go_at_call 59; refine (between_any _ _ _ _).mono ?_; rintro e w' ⟨rfl, rfl⟩)
  go_ret
  exact ⟨rfl, Below.refl _ _⟩
def badIdx (n : Nat) (l : List Int) : Bool := l.any fun i => !betweenB i 0 ((n : Int) - 1)
theorem chainIdx_any (gb : Nat) (A : Option Addr) (n c : Nat) (hn : n ≤ 9223372036854775807) (A1 : Option Addr) (c1 : Nat) (l : List Int) (w : World) (hc : w.cell? ⟨gb, 0, none⟩ = some (.slice A n c)) (hr : Kd.C (Kd.int .i64) w A1 l.length l) {b : Bool} (hb : badIdx n l = b) :
    Calls Try.prog 87 #[.slice A1 l.length c1, .func (.func 88) #[] #[.pointer (some ⟨gb, 0, none⟩)]] w fun e w' => e = .returned (.bool b) ∧ Below w.heap.size w w' :=
  hb ▸ any_int 88 en88 #[.pointer (some ⟨gb, 0, none⟩)] (fun i => !betweenB i 0 ((n : Int) - 1)) A1 c1 l w hr (fun i _ _ W hW => chain1_any (rd l i) gb A n c hn W ((hW.cell (World.block_lt_of_cell? w _ hc)).trans hc))
def chainGo (all : List S27) : List Int → Int → Int → Option (Int × Int)
  | [], at_, sum => some (at_, sum)
  | i :: r, at_, sum => if (rd_T27 all i).f0 = at_ then chainGo all r (rd_T27 all i).f1 (wrap64 (sum + (rd_T27 all i).f2)) else none
def chainF (all : List S27) (l : List Int) : Int × Int × Int × Bool :=
  if l.length < 1 ∨ 100 < l.length ∨ badIdx all.length l = true then (0, 0, 0, false)
  else match chainGo all l (rd_T27 all (rd l 0)).f0 0 with
    | some (at_, sum) => ((rd_T27 all (rd l 0)).f0, at_, sum, true)
    | none => (0, 0, 0, false)
theorem chainGo_drop (all : List S27) (l : List Int) (j : Nat) (hj : j < l.length) (at_ sum : Int) : chainGo all (l.drop j) at_ sum = if (rd_T27 all (rd l (j : Int))).f0 = at_ then chainGo all (l.drop (j + 1)) (rd_T27 all (rd l (j : Int))).f1 (wrap64 (sum + (rd_T27 all (rd l (j : Int))).f2)) else none := by
  rw [List.drop_eq_getElem_cons hj]
  have : rd l (j : Int) = l[j] := by simp [rd, List.getD_eq_getElem?_getD, List.getElem?_eq_getElem hj]
  rw [chainGo, this]

set_option maxHeartbeats 3200000 in
set_option maxRecDepth 100000 in
theorem chain_any (A : Option Addr) (c : Nat) (all : List S27) (A1 : Option Addr) (c1 : Nat) (l : List Int) (w : World) (h0 : Kd.C k27 w A all.length all) (h1 : Kd.C (Kd.int .i64) w A1 l.length l) :
    Calls Try.prog 66 #[.slice A all.length c, .slice A1 l.length c1] w fun e w' => e = .returned (.tuple #[.int .i64 (chainF all l).1, .int .i64 (chainF all l).2.1, .int .i64 (chainF all l).2.2.1, .bool (chainF all l).2.2.2]) ∧ Below w.heap.size w w' := by
  have hn : all.length ≤ 9223372036854775807 := h0.2.1
  have hm : l.length ≤ 9223372036854775807 := h1.2.1
  have H0 := Aside0.mk h0
  have H1 := Aside0.mk h1
  clear h0 h1
  have hcase : (l.length < 1) ∨ (1 ≤ l.length ∧ 100 < l.length) ∨ (1 ≤ l.length ∧ l.length ≤ 100 ∧ badIdx all.length l = true) ∨ (1 ≤ l.length ∧ l.length ≤ 100 ∧ badIdx all.length l = false) := by
    rcases Nat.lt_or_ge l.length 1 with h | h
    · exact .inl h
    · rcases Nat.lt_or_ge 100 l.length with h' | h'
      · exact .inr (.inl ⟨h, h'⟩)
      · cases hb : badIdx all.length l
        · exact .inr (.inr (.inr ⟨h, h', rfl⟩))
        · exact .inr (.inr (.inl ⟨h, h', rfl⟩))
  rcases hcase with k1 | ⟨k1, k2⟩ | ⟨k1, k2, k3⟩ | ⟨k1, k2, k3⟩
  · have hF : chainF all l = (0, 0, 0, false) := by unfold chainF; rw [if_pos (Or.inl k1)]
    rw [hF]
    have b1 : decide ((l.length : Int) < 1) = true := decide_eq_true (by omega)
    have b1' : decide (l.length < 1) = true := decide_eq_true (by omega)
    clear hF k1
    go_enter Try.func66, Try.ntmps66
    go_wp2_with ((with_reducible refine gate_dst (N := 2) rfl ?_); refine box_event ?hg (N := 2) ?hd (cs := #[.slice A all.length c]) (t := 68) ?hr ?_; (case hd => rfl); (case hg => rfl); (case hr => first | (go_simp; done) | (go_simp; rfl)); intro gb hg w2 hbox hb; have BX := Aside0.mk hbox; have HB := Aside0.mk hb; have cb : w2.cell? ⟨gb, 0, none⟩ = some (.slice A all.length c) := (blk_cell hbox 0).trans rfl; clear hbox hb hg)
    refine bodyPost_ret (results_list (rs := [.tmp 4, .tmp 5, .tmp 6, .tmp 7]) rfl (by simp) (.tmp (.tmp (.tmp (.tmp .nil))))) rfl ?_
    exact ⟨rfl, HB.out⟩
  · have hF : chainF all l = (0, 0, 0, false) := by unfold chainF; rw [if_pos (Or.inr (Or.inl k2))]
    rw [hF]
    have b1 : decide ((l.length : Int) < 1) = false := decide_eq_false (by omega)
    have b1' : decide (l.length < 1) = false := decide_eq_false (by omega)
    have b2 : decide ((100 : Int) < (l.length : Int)) = true := decide_eq_true (by omega)
    have b2' : decide (100 < l.length) = true := decide_eq_true (by omega)
    clear hF k1 k2
    go_enter Try.func66, Try.ntmps66
    go_wp2_with ((with_reducible refine gate_dst (N := 2) rfl ?_); refine box_event ?hg (N := 2) ?hd (cs := #[.slice A all.length c]) (t := 68) ?hr ?_; (case hd => rfl); (case hg => rfl); (case hr => first | (go_simp; done) | (go_simp; rfl)); intro gb hg w2 hbox hb; have BX := Aside0.mk hbox; have HB := Aside0.mk hb; have cb : w2.cell? ⟨gb, 0, none⟩ = some (.slice A all.length c) := (blk_cell hbox 0).trans rfl; clear hbox hb hg)
    refine bodyPost_ret (results_list (rs := [.tmp 4, .tmp 5, .tmp 6, .tmp 7]) rfl (by simp) (.tmp (.tmp (.tmp (.tmp .nil))))) rfl ?_
    exact ⟨rfl, HB.out⟩
  · have hF : chainF all l = (0, 0, 0, false) := by unfold chainF; rw [if_pos (Or.inr (Or.inr k3))]
    rw [hF]
    have b1 : decide ((l.length : Int) < 1) = false := decide_eq_false (by omega)
    have b1' : decide (l.length < 1) = false := decide_eq_false (by omega)
    have b2 : decide ((100 : Int) < (l.length : Int)) = false := decide_eq_false (by omega)
    have b2' : decide (100 < l.length) = false := decide_eq_false (by omega)
    have K3 := Aside0.mk k3
    clear hF k1 k2 k3
    go_enter Try.func66, Try.ntmps66
    go_wp2_with (first | ((with_reducible refine gate_dst (N := 2) rfl ?_); refine box_event ?hg (N := 2) ?hd (cs := #[.slice A all.length c]) (t := 68) ?hr ?_; (case hd => rfl); (case hg => rfl); (case hr => first | (go_simp; done) | (go_simp; rfl)); intro gb hg w2 hbox hb; have BX := Aside0.mk hbox; have HB := Aside0.mk hb; have cb : w2.cell? ⟨gb, 0, none⟩ = some (.slice A all.length c) := (blk_cell hbox 0).trans rfl; clear hbox hb hg) | (go_at_call 87; refine (chainIdx_any gb A all.length c hn A1 c1 l w2 cb (Kd.C_below H1.out HB.out) K3.out).mono ?_; rintro e w3 ⟨rfl, hb3⟩; have HB3 := Aside0.mk (below_step HB.out hb3); clear hb3 cb))
    refine bodyPost_ret (results_list (rs := [.tmp 4, .tmp 5, .tmp 6, .tmp 7]) rfl (by simp) (.tmp (.tmp (.tmp (.tmp .nil))))) rfl ?_
    exact ⟨rfl, HB3.out⟩
  · have b1 : decide ((l.length : Int) < 1) = false := decide_eq_false (by omega)
    have b1' : decide (l.length < 1) = false := decide_eq_false (by omega)
    have b2 : decide ((100 : Int) < (l.length : Int)) = false := decide_eq_false (by omega)
    have b2' : decide (100 < l.length) = false := decide_eq_false (by omega)
    have HF := Aside0.mk (show chainF all l = match chainGo all l (rd_T27 all (rd l 0)).f0 0 with | some (at_, sum) => ((rd_T27 all (rd l 0)).f0, at_, sum, true) | none => (0, 0, 0, false) from by unfold chainF; rw [if_neg (by rintro (h | h | h); omega; omega; rw [k3] at h; cases h)])
    have HIX : Aside0 (∀ j : Nat, j < l.length → 0 ≤ rd l (j : Int) ∧ rd l (j : Int) < (all.length : Int)) := ⟨fun j hj => by
      unfold badIdx at k3
      rw [List.any_eq_false] at k3
      have h := k3 (rd l (j : Int)) (by simp [rd, List.getD_eq_getElem?_getD, List.getElem?_eq_getElem hj])
      simp [betweenB] at h
      omega⟩
    have K3 := Aside0.mk k3
    clear k3
    have hq0 : 0 ≤ rd l 0 ∧ rd l 0 < (all.length : Int) := by have h := HIX.out 0 (by omega); simpa using h
    obtain ⟨q0, q1⟩ := hq0
    obtain ⟨ad1, e1, x1⟩ := Kd.at_int H1.out 0 (by omega) (by omega)
    cases e1
    obtain ⟨ad0, e0, x0, _⟩ := at_T27 H0.out (rd l 0) q0 q1
    cases e0
    simp only [Int.toNat_zero, Addr.add_zero'] at x1
    have z0 : 0 < l.length := by omega
    have z0' : (0 : Int) < (l.length : Int) := by omega
    have X1 := Aside0.mk x1
    have X0 := Aside0.mk x0
    clear x1 x0
    go_enter Try.func66, Try.ntmps66
    go_wp2_with (first | ((with_reducible refine gate_dst (N := 2) rfl ?_); refine box_event ?hg (N := 2) ?hd (cs := #[.slice (some ad0) all.length c]) (t := 68) ?hr ?_; (case hd => rfl); (case hg => rfl); (case hr => first | (go_simp; done) | (go_simp; rfl)); intro gb hg w2 hbox hb; have BX := Aside0.mk hbox; have HB := Aside0.mk hb; have cb : w2.cell? ⟨gb, 0, none⟩ = some (.slice (some ad0) all.length c) := (blk_cell hbox 0).trans rfl; clear hbox hb hg) | (go_at_call 87; refine (chainIdx_any gb (some ad0) all.length c hn (some ad1) c1 l w2 cb (Kd.C_below H1.out HB.out) K3.out).mono ?_; rintro e w3 ⟨rfl, hb3⟩; have HB3 := Aside0.mk (below_step HB.out hb3); have cb3 := (hb3.cell (World.block_lt_of_cell? w2 _ cb)).trans cb; have x1 := (HB3.out.cell (World.block_lt_of_cell? w _ X1.out)).trans X1.out; have x0 := (HB3.out.cell (World.block_lt_of_cell? w _ X0.out)).trans X0.out; clear hb3 cb))
    go_quiet (fail)
    have HB4 := Aside0.mk (show Below w.heap.size w (w3.drewN nq) from pw_below_drewN HB3.out nq)
    have cb4 : (w3.drewN nq).cell? ⟨gb, 0, none⟩ = some (.slice (some ad0) all.length c) := cb3
    clear HB3 cb3 x1 x0
    generalize w3.drewN nq = w4 at HB4 cb4 ⊢
    have GB := Aside0.mk (World.block_lt_of_cell? w4 _ cb4)
    have cbW := Aside0.mk cb4
    go_wp2_with fail
    go_loopw [8, 9, 34] (fun v8 v9 v wr => ∃ (j : Nat) (at_ sum : Int), v8 = .int .i64 sum ∧ v9 = .int .i64 at_ ∧ v = .int .i64 j ∧ j ≤ l.length ∧ Aside0 (chainGo all l (rd_T27 all (rd l 0)).f0 0 = chainGo all (l.drop j) at_ sum) ∧ Aside0 (Below w4.heap.size w4 wr)) (fun _ _ v _ => l.length - (intOf v).toNat)
    case atStart => exact ⟨0, _, _, rfl, rfl, rfl, by omega, ⟨by rw [List.drop_zero]⟩, ⟨Below.refl _ _⟩⟩
    case round =>
      clear cb4
      obtain ⟨j, at_, sum, rfl, rfl, rfl, hj, HG, HB5⟩ := hrel
      have cb5 := (HB5.out.cell GB.out).trans cbW.out
      by_cases hlt : j < l.length
      · have hltb : decide ((j : Int) < (l.length : Int)) = true := by simpa using hlt
        obtain ⟨r0, r1⟩ := HIX.out j hlt
        obtain ⟨_, e1, y1⟩ := Kd.at_int H1.out (j : Int) (by omega) (by omega)
        cases e1
        obtain ⟨_, e0, y0, y2, y3⟩ := at_T27 H0.out (rd l (j : Int)) r0 r1
        cases e0
        have HBw := Aside0.mk (below_step HB4.out HB5.out)
        replace y1 := (HBw.out.cell (World.block_lt_of_cell? w _ y1)).trans y1
        replace y0 := (HBw.out.cell (World.block_lt_of_cell? w _ y0)).trans y0
        replace y2 := (HBw.out.cell (World.block_lt_of_cell? w _ y2)).trans y2
        replace y3 := (HBw.out.cell (World.block_lt_of_cell? w _ y3)).trans y3
        simp only [Int.toNat_natCast] at y1
        have HS := Aside0.mk (chainGo_drop all l j hlt at_ sum)
        generalize rd l (j : Int) = i at y1 y0 y2 y3 r0 r1 HS
        generalize rd_T27 all i = b at y0 y2 y3 HS
        obtain ⟨b0, b1, b2⟩ := b
        simp only at y0 y2 y3
        by_cases ha : b0 = at_
        · have hab : (b0 != at_) = false := by simpa using ha
          have HA := Aside0.mk ha
          clear ha
          go_wp2_with fail
          go_roundw
          case rel => exact ⟨j + 1, _, _, rfl, rfl, by go_num, by omega, ⟨by rw [HG.out, HS.out, if_pos HA.out]⟩, HB5⟩
          case measure => simp [intOf]; omega
        · have hab : (b0 != at_) = true := by simpa using ha
          have hF : chainF all l = (0, 0, 0, false) := by rw [HF.out, HG.out, HS.out, if_neg ha]
          have HF0 := Aside0.mk hF
          clear ha hF
          go_wp2_with fail
          refine bodyPost_ret (results_list (rs := [.tmp 4, .tmp 5, .tmp 6, .tmp 7]) rfl (by simp) (.tmp (.tmp (.tmp (.tmp .nil))))) rfl ?_
          exact ⟨by rw [HF0.out]; rfl, HBw.out⟩
      · have hltb : decide ((j : Int) < (l.length : Int)) = false := by simpa using hlt
        have hF : chainF all l = ((rd_T27 all (rd l 0)).f0, at_, sum, true) := by rw [HF.out, HG.out, List.drop_eq_nil_of_le (by omega)]; rfl
        have HF0 := Aside0.mk hF
        clear hF
        have HBw := Aside0.mk (below_step HB4.out HB5.out)
        have x1 := (HBw.out.cell (World.block_lt_of_cell? w _ X1.out)).trans X1.out
        have x0 := (HBw.out.cell (World.block_lt_of_cell? w _ X0.out)).trans X0.out
        go_wp2_with fail
        go_quiet (fail)
        go_wp2_with fail
        refine bodyPost_ret (results_list (rs := [.tmp 4, .tmp 5, .tmp 6, .tmp 7]) rfl (by simp) (.tmp (.tmp (.tmp (.tmp .nil))))) rfl ?_
        exact ⟨by rw [HF0.out]; rfl, pw_below_drewN HBw.out _⟩
end Go.Proofs.Ytlfopemghafboaa.D
