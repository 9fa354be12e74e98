/- Contracts of functions that the law reaches, each a walk through its code. No condition beyond each theorem's own hypotheses. -/
import Derived.Test.YtlfopemghafboaaDh4
import Derived.WalkSpells
import Derived.Handy
import Derived.StillTailTactics
import Derived.IntWalk
namespace Go.Proofs.Ytlfopemghafboaa.D
open Go.RowKit Go.Proofs.YtlfopemghafboaaW.PrintWords Go.Proofs.YtlfopemghafboaaW.PrintLast Go.Proofs.YtlfopemghafboaaW.PrintMore
set_option linter.unusedVariables false
set_option linter.unusedSimpArgs false

/-- Two rows of the call's own, apart from each other. -/
def Two (w W : World) (v2 v3 : Value) (xs ys : List Int) : Prop :=
  Kd.R (Kd.int .i64) 3 W w.heap.size (fun k => some k ≠ v3.ownBlock) v2 xs ∧ Kd.R (Kd.int .i64) 3 W w.heap.size (fun k => some k ≠ v2.ownBlock) v3 ys ∧ Below w.heap.size w W
theorem Two.below {w W W1 : World} {v2 v3 : Value} {xs ys : List Int} (h : Two w W v2 v3 xs ys) (hb : Below W.heap.size W W1) : Two w W1 v2 v3 xs ys :=
  ⟨Kd.R_below h.1 hb, Kd.R_below h.2.1 hb, below_step h.2.2 hb⟩
theorem Two.swap {w W : World} {v2 v3 : Value} {xs ys : List Int} (h : Two w W v2 v3 xs ys) : Two w W v3 v2 ys xs := ⟨h.2.1, h.1, h.2.2⟩
theorem Two.nil (w : World) : Two w w (.slice none 0 0) (.slice none 0 0) [] [] := ⟨Kd.R_nil _ _ _ _ _, Kd.R_nil _ _ _ _ _, Below.refl _ _⟩
theorem Two.fresh {w W : World} {v2 v3 : Value} {xs ys : List Int} (h : Two w W v2 v3 xs ys) : ∀ k, W.heap.size ≤ k → some k ≠ v3.ownBlock := fun k hk => Kd.fresh' (Kd.R_lt h.2.1) k hk
theorem Two.after {w W w1 : World} {v2 v3 v1 : Value} {xs ys zs : List Int} (h : Two w W v2 v3 xs ys) (ho : Kd.R (Kd.int .i64) 3 w1 w.heap.size (fun k => some k ≠ v3.ownBlock) v1 zs) (hb : Below w.heap.size w w1) (hg : W.grownBy w1 v2.ownBlock) (hat : v1.ownBlock = v2.ownBlock ∨ ∃ b, v1.ownBlock = some b ∧ W.heap.size ≤ b) : Two w w1 v1 v3 zs ys :=
  ⟨ho, Kd.R_mono (Kd.R_after (ok := fun _ => True) (Kd.R_mono h.2.1 (fun _ hk => ⟨trivial, hk⟩)) hg hat) (fun _ hk => hk.2), hb⟩
section
variable {ops : Array Oper} {rest : List Oper} {o : Oper} {a : Act} {Q : Exit → Act → World → Prop}
theorem two_append {w W : World} (hgd : o.guard = none) (s x : Operand) (ho : o.op = .call { callee := .builtin .append, args := #[s, x], argTypes := #[28, 28] }) (v2 v3 : Value) (xs ys : List Int) (p : Int) (hs : a.eval s = v2) (hx : a.eval x = .slice (some ⟨W.heap.size, 0, none⟩) 1 1)
    (hT : Two w W v2 v3 xs ys) (hl : xs.length < 1000000) (h : ∀ v1 w1, Two w w1 v1 v3 (xs ++ [p]) ys → wpList Try.prog ops Q rest (a.put o.dst v1) w1) : wpList Try.prog ops Q (o :: rest) a (W.alloc (.cells #[.int .i64 p] 3)) :=
  Kd.R_append (Kd.int .i64) (w0 := w) w.heap.size hgd s x 28 3 (.int .i64 0) 8 ho Try.underlying28 info3 rfl (by decide) (by omega) v2 xs p [.int .i64 p] (fun k_ => some k_ ≠ (v3 : Value).ownBlock) (fun _ => False) hs hx rfl (fun _ hk => hk.elim) hT.fresh hT.1 hT.2.2 hT.2.2.size (by omega)
    (fun v1 w1 h1 h2 h3 h4 => h v1 w1 (hT.after h1 h2 h3 h4))
end
theorem newC {W : World} {h : Nat} {p : Int} (hN : W.heap[h]? = some (.cells #[.int .i64 p] 3 (0, 0))) : Kd.C (Kd.int .i64) W (some ⟨h, 0, none⟩) 1 [p] := by
  refine ⟨rfl, by omega, fun _ => ⟨_, rfl, fun j q hq => ?_⟩⟩
  have hj : j = 0 := by
    have := (List.getElem?_eq_some_iff.1 hq).1
    simp at this
    exact this
  subst hj
  have hq' : p = q := by simpa using hq
  subst hq'
  refine ⟨[.int .i64 p], rfl, rfl, fun i u hu => ?_⟩
  have hi : i = 0 := by
    have := (List.getElem?_eq_some_iff.1 hu).1
    simp at this
    exact this
  subst hi
  have hu' : Value.int .i64 p = u := by simpa using hu
  subst hu'
  rw [Nat.zero_mul, Nat.zero_add, Addr.add_zero']
  exact (blk_cell hN 0).trans rfl
theorem Two.form {w V : World} {v2 v3 : Value} {xs ys : List Int} (h : Two w V v2 v3 xs ys) (hl : 0 < xs.length) : ∃ ad c, v2 = .slice (some ad) xs.length c := by
  obtain ⟨A, c, e, _, hC⟩ := Kd.R_reads h.1
  obtain ⟨ad, e1, _⟩ := hC.2.2 hl
  exact ⟨ad, c, by rw [e, e1]⟩
theorem Two.elt {w V : World} {v3 : Value} {xs ys : List Int} {ad : Addr} {n c : Nat} (h : Two w V (.slice (some ad) n c) v3 xs ys) (i : Int) (h0 : 0 ≤ i) (h1 : i < xs.length) : V.cell? (ad.add i.toNat) = some (.int .i64 (rd xs i)) := by
  obtain ⟨A, c', e, _, hC⟩ := Kd.R_reads h.1
  injection e with e1 _ _
  obtain ⟨ad', e2, hc⟩ := Kd.at_int hC i h0 h1
  rw [e2] at e1
  injection e1 with e1
  rw [e1]
  exact hc
section
variable {ops : Array Oper} {o : Oper} {a : Act} {Q : Exit → Act → World → Prop} {Kc : Act → World → Prop}
theorem two_append_step {w W : World} (hw : Region.wanted o (yielded ops a.tmps) = true) (s x : Operand) (ho : o.op = .call { callee := .builtin .append, args := #[s, x], argTypes := #[28, 28] }) (v2 v3 : Value) (xs ys : List Int) (p : Int) (h1 : Nat) (hs : a.eval s = v2) (hx : a.eval x = .slice (some ⟨h1, 0, none⟩) 1 1)
    (hN : W.heap[h1]? = some (.cells #[.int .i64 p] 3 (0, 0))) (hT : Two w W v2 v3 xs ys) (hl : xs.length < 1000000)
    (h : ∀ v1 w1, Two w w1 v1 v3 (xs ++ [p]) ys → W.grownBy w1 v2.ownBlock → (v1.ownBlock = v2.ownBlock ∨ ∃ b, v1.ownBlock = some b ∧ W.heap.size ≤ b) → Kc (a.put o.dst v1) w1) :
    if Region.wanted o (yielded ops a.tmps) = true then Oper.wp Try.prog o a W Kc Q else Kc (a.put o.dst undef) W :=
  Kd.R_append_rows_step (Kd.int .i64) (w0 := w) w.heap.size hw s x 28 3 (.int .i64 0) 8 ho Try.underlying28 info3 rfl (by decide) (by omega) v2 xs [p] (some ⟨h1, 0, none⟩) 1 1 (fun k_ => some k_ ≠ (v3 : Value).ownBlock) (fun _ => False) hs hx hT.1 (newC hN) (fun _ _ hk => hk) (fun _ hk => hk.elim) hT.fresh hT.2.2 hT.2.2.size (by omega)
    (fun v1 w1 h1 h2 h3 h4 => h v1 w1 (hT.after h1 h2 h3 h4) h3 h4)
end
def rdL (E : List S80) : Nat → List Int × List Int
  | 0 => ([], [])
  | n + 1 => if (rd_T80 E n).f1 = 2 then ((rdL E n).1 ++ [rd (rdL E n).1 (rd_T80 E n).f2], (rdL E n).2 ++ [wrap64 (rd (rdL E n).2 (rd_T80 E n).f2 + (rd_T80 E n).f3)]) else ((rdL E n).1 ++ [(n : Int)], (rdL E n).2 ++ [0])
theorem rdL_len (E : List S80) (n : Nat) : (rdL E n).1.length = n ∧ (rdL E n).2.length = n := by
  induction n with
  | zero => exact ⟨rfl, rfl⟩
  | succ n ih =>
    unfold rdL
    split <;> simp [ih.1, ih.2]

set_option maxHeartbeats 3200000 in
set_option maxRecDepth 100000 in
theorem readings_any (g : Nat) (R : List S42) (E : List S80) (w : World) (hP : PlanAt w g R E) (hE : E.length ≤ 100) (ht : ∀ i : Nat, i < E.length → (rd_T80 E i).f1 = 2 → 0 ≤ (rd_T80 E i).f2 ∧ (rd_T80 E i).f2 < i) :
    Calls Try.prog 78 #[.pointer (some ⟨g, 0, none⟩)] w fun e w' => ∃ v0 v1, e = .returned (.tuple #[v0, v1]) ∧ Two w w' v0 v1 (rdL E E.length).1 (rdL E E.length).2 := by
  have HT := Aside0.mk ht
  clear ht
  obtain ⟨A0, c0, A1, c1, g1, g2, g3, g4, g5⟩ := hP
  have p1 : w.cell? ⟨g, 1, none⟩ = some (.slice A1 E.length c1) := (blk_cell g1 1).trans rfl
  have G3 := Aside0.mk g3
  clear g1 g2 g3 g4
  go_enter Try.func78, Try.ntmps78
  go_wp2_with fail
  go_loopw [2, 3, 11] (fun v2 v3 v wr => ∃ j : Nat, v = .int .i64 j ∧ j ≤ E.length ∧ Aside0 (Two w wr v2 v3 (rdL E j).1 (rdL E j).2)) (fun _ _ v _ => E.length - (intOf v).toNat)
  case atStart => exact ⟨0, rfl, by omega, ⟨Two.nil w⟩⟩
  case round =>
    clear p1
    obtain ⟨j, rfl, hj, HO⟩ := hrel
    by_cases hlt : j < E.length
    · have hltb : decide ((j : Int) < (E.length : Int)) = true := by simpa using hlt
      obtain ⟨ad, e1, x0, x1, x2, x3, x4, x5⟩ := at_T80 G3.out (j : Int) (by omega) (by omega)
      cases e1
      replace x0 := (HO.out.2.2.cell (World.block_lt_of_cell? w _ x0)).trans x0
      replace x1 := (HO.out.2.2.cell (World.block_lt_of_cell? w _ x1)).trans x1
      replace x2 := (HO.out.2.2.cell (World.block_lt_of_cell? w _ x2)).trans x2
      replace x3 := (HO.out.2.2.cell (World.block_lt_of_cell? w _ x3)).trans x3
      replace x4 := (HO.out.2.2.cell (World.block_lt_of_cell? w _ x4)).trans x4
      replace x5 := (HO.out.2.2.cell (World.block_lt_of_cell? w _ x5)).trans x5
      simp only [Int.toNat_natCast] at x0 x1 x2 x3 x4 x5
      have HL := Aside0.mk (rdL_len E j)
      by_cases k2 : (rd_T80 E (j : Int)).f1 = 2
      · have k2b : ((rd_T80 E (j : Int)).f1 == 2) = true := by simpa using k2
        have hi := HT.out j hlt k2
        have hw : rdL E (j + 1) = ((rdL E j).1 ++ [rd (rdL E j).1 (rd_T80 E j).f2], (rdL E j).2 ++ [wrap64 (rd (rdL E j).2 (rd_T80 E j).f2 + (rd_T80 E j).f3)]) := by rw [rdL, if_pos k2]
        have HW := Aside0.mk hw
        have HI := Aside0.mk hi
        clear k2 hw hi
        go_wp2_with fail
        have BX := blk_new wr (.cells #[.int .i64 (rd_T80 E (j : Int)).f0, .int .i64 (rd_T80 E (j : Int)).f1, .int .i64 (rd_T80 E (j : Int)).f2, .int .i64 (rd_T80 E (j : Int)).f3, .int .i64 (rd_T80 E (j : Int)).f4, .int .i64 (rd_T80 E (j : Int)).f5] 80)
        have T0 := HO.out.below (below_alloc (Below.refl _ _) (.cells #[.int .i64 (rd_T80 E (j : Int)).f0, .int .i64 (rd_T80 E (j : Int)).f1, .int .i64 (rd_T80 E (j : Int)).f2, .int .i64 (rd_T80 E (j : Int)).f3, .int .i64 (rd_T80 E (j : Int)).f4, .int .i64 (rd_T80 E (j : Int)).f5] 80))
        clear x0 x1 x2 x3 x4 x5 HO k2b
        generalize wr.alloc (.cells #[.int .i64 (rd_T80 E (j : Int)).f0, .int .i64 (rd_T80 E (j : Int)).f1, .int .i64 (rd_T80 E (j : Int)).f2, .int .i64 (rd_T80 E (j : Int)).f3, .int .i64 (rd_T80 E (j : Int)).f4, .int .i64 (rd_T80 E (j : Int)).f5] 80) = V0 at BX T0 ⊢
        generalize wr.heap.size = gb at BX ⊢
        generalize rdL E j = q at T0 HL HW
        generalize rd_T80 E (j : Int) = ev at BX HW HI ⊢
        obtain ⟨xs, ys⟩ := q
        obtain ⟨f0, f1, f2, f3, f4, f5⟩ := ev
        simp only at T0
        obtain ⟨hl2, hl3⟩ := HL.out
        simp only at hl2 hl3
        obtain ⟨hi0, hi1⟩ := HI.out
        simp only at hi0 hi1
        have hi2 : f2 < (xs.length : Int) := by omega
        have hi3 : f2 < (ys.length : Int) := by omega
        have HL2 := Aside0.mk hl2
        have HL3 := Aside0.mk hl3
        clear hl2 hl3
        have hq2 : xs.length ≤ 100 := by have := HL2.out; omega
        have hq3 : ys.length ≤ 100 := by have := HL3.out; omega
        obtain ⟨ad2, c2, e2⟩ := T0.form (by omega)
        obtain ⟨ad3, c3, e3⟩ := T0.swap.form (by omega)
        subst e2
        subst e3
        have B := blk_drew BX
        have T := T0.below (below_drew1 (Below.refl _ _))
        clear BX T0
        refine start_ (n := 21) (S := fun w' => w'.cell? ⟨gb, 2, none⟩ = some (.int .i64 f2) ∧ w'.cell? ⟨gb, 3, none⟩ = some (.int .i64 f3) ∧ w'.cell? (ad3.add f2.toNat) = some (.int .i64 (rd ys f2))) (ds := [18]) #[false, false, false, false, false, false, false, false, false, false, false, false, false, false, false, false, false, false, false, false, false] (by kernel_rfl) rfl rfl ⟨(blk_cell B 2).trans rfl, (blk_cell B 3).trans rfl, T.swap.elt _ hi0 hi3⟩ (fun hHeld => ?_)
        generalize V0.drew = V at *
        refine pure_ (i := 0) (N := some 19) (v := ?_) (a' := ?_) #[true, false, false, false, false, false, false, false, false, false, false, false, false, false, false, false, false, false, false, false, false] rfl rfl (by kernel_rfl) (fun _ _ _ h => h) (Or.inl ⟨by rfl, ?_⟩) ?_ ?_
        rotate_left
        · intro w'
          go_simp
          with_reducible rfl
        rotate_left
        · simp only [Act.put, List.setIfInBounds_toArray, List.set_cons_zero, List.set_cons_succ, i64_w, i32_w]
          rfl
        refine pure_ (i := 1) (N := some 20) (v := ?_) (a' := ?_) #[true, true, false, false, false, false, false, false, false, false, false, false, false, false, false, false, false, false, false, false, false] rfl rfl (by kernel_rfl) (fun _ _ _ h => h) (Or.inl ⟨by rfl, ?_⟩) ?_ ?_
        rotate_left
        · intro w'
          go_simp
          with_reducible rfl
        rotate_left
        · simp only [Act.put, List.setIfInBounds_toArray, List.set_cons_zero, List.set_cons_succ, i64_w, i32_w]
          rfl
        refine pure_ (i := 2) (N := some 21) (v := ?_) (a' := ?_) #[true, true, true, false, false, false, false, false, false, false, false, false, false, false, false, false, false, false, false, false, false] rfl rfl (by kernel_rfl) (fun _ _ _ h => h) (Or.inl ⟨by rfl, ?_⟩) ?_ ?_
        rotate_left
        · intro w'
          go_simp
          with_reducible rfl
        rotate_left
        · simp only [Act.put, List.setIfInBounds_toArray, List.set_cons_zero, List.set_cons_succ, i64_w, i32_w]
          rfl
        refine pure_ (i := 8) (N := some 27) (v := ?_) (a' := ?_) #[true, true, true, false, false, false, false, false, true, false, false, false, false, false, false, false, false, false, false, false, false] rfl rfl (by kernel_rfl) (fun _ _ _ h => h) (Or.inl ⟨by rfl, ?_⟩) ?_ ?_
        rotate_left
        · intro w'
          go_simp
          with_reducible rfl
        rotate_left
        · simp only [Act.put, List.setIfInBounds_toArray, List.set_cons_zero, List.set_cons_succ, i64_w, i32_w]
          rfl
        refine pure_ (i := 9) (N := some 28) (v := ?_) (a' := ?_) #[true, true, true, false, false, false, false, false, true, true, false, false, false, false, false, false, false, false, false, false, false] rfl rfl (by kernel_rfl) (fun _ _ _ h => h) (Or.inl ⟨by rfl, ?_⟩) ?_ ?_
        rotate_left
        · intro w'
          go_simp
          with_reducible rfl
        rotate_left
        · simp only [Act.put, List.setIfInBounds_toArray, List.set_cons_zero, List.set_cons_succ, i64_w, i32_w]
          rfl
        refine pure_ (i := 10) (N := some 29) (v := ?_) (a' := ?_) #[true, true, true, false, false, false, false, false, true, true, true, false, false, false, false, false, false, false, false, false, false] rfl rfl (by kernel_rfl) (fun _ _ _ h => h) (Or.inl ⟨by rfl, ?_⟩) ?_ ?_
        rotate_left
        · intro w'
          go_simp
          with_reducible rfl
        rotate_left
        · simp only [Act.put, List.setIfInBounds_toArray, List.set_cons_zero, List.set_cons_succ, i64_w, i32_w]
          rfl
        refine pure_ (i := 14) (N := some 33) (v := ?_) (a' := ?_) #[true, true, true, false, false, false, false, false, true, true, true, false, false, false, true, false, false, false, false, false, false] rfl rfl (by kernel_rfl) (fun _ _ _ h => h) (Or.inl ⟨by rfl, ?_⟩) ?_ ?_
        rotate_left
        · intro w'
          go_simp
          with_reducible rfl
        rotate_left
        · simp only [Act.put, List.setIfInBounds_toArray, List.set_cons_zero, List.set_cons_succ, i64_w, i32_w]
          rfl
        refine take_ (i := 3) (N := some 22) (v := ?_) (a' := ?_) #[true, true, true, true, false, false, false, false, true, true, true, false, false, false, true, false, false, false, false, false, false] rfl rfl (by kernel_rfl) (fun _ _ _ h => h) (Or.inl ⟨by rfl, ?_⟩) hHeld ?_ ?_
        rotate_left
        · rintro w' ⟨s0, s1, s2⟩
          go_simp
          with_reducible rfl
        rotate_left
        · simp only [Act.put, List.setIfInBounds_toArray, List.set_cons_zero, List.set_cons_succ, i64_w, i32_w]
          rfl
        refine pure_ (i := 4) (N := some 23) (v := ?_) (a' := ?_) #[true, true, true, true, true, false, false, false, true, true, true, false, false, false, true, false, false, false, false, false, false] rfl rfl (by kernel_rfl) (fun _ _ _ h => h) (Or.inl ⟨by rfl, ?_⟩) ?_ ?_
        rotate_left
        · intro w'
          go_simp
          with_reducible rfl
        rotate_left
        · simp only [Act.put, List.setIfInBounds_toArray, List.set_cons_zero, List.set_cons_succ, i64_w, i32_w]
          rfl
        refine take_ (i := 11) (N := some 30) (v := ?_) (a' := ?_) #[true, true, true, true, true, false, false, false, true, true, true, true, false, false, true, false, false, false, false, false, false] rfl rfl (by kernel_rfl) (fun _ _ _ h => h) (Or.inl ⟨by rfl, ?_⟩) hHeld ?_ ?_
        rotate_left
        · rintro w' ⟨s0, s1, s2⟩
          go_simp
          with_reducible rfl
        rotate_left
        · simp only [Act.put, List.setIfInBounds_toArray, List.set_cons_zero, List.set_cons_succ, i64_w, i32_w]
          rfl
        refine pure_ (i := 12) (N := some 31) (v := ?_) (a' := ?_) #[true, true, true, true, true, false, false, false, true, true, true, true, true, false, true, false, false, false, false, false, false] rfl rfl (by kernel_rfl) (fun _ _ _ h => h) (Or.inl ⟨by rfl, ?_⟩) ?_ ?_
        rotate_left
        · intro w'
          go_simp
          with_reducible rfl
        rotate_left
        · simp only [Act.put, List.setIfInBounds_toArray, List.set_cons_zero, List.set_cons_succ, i64_w, i32_w]
          rfl
        refine take_ (i := 13) (N := some 32) (v := ?_) (a' := ?_) #[true, true, true, true, true, false, false, false, true, true, true, true, true, true, true, false, false, false, false, false, false] rfl rfl (by kernel_rfl) (fun _ _ _ h => h) (Or.inl ⟨by rfl, ?_⟩) hHeld ?_ ?_
        rotate_left
        · rintro w' ⟨s0, s1, s2⟩
          go_simp
          with_reducible rfl
        rotate_left
        · simp only [Act.put, List.setIfInBounds_toArray, List.set_cons_zero, List.set_cons_succ, i64_w, i32_w]
          rfl
        refine take_ (i := 15) (N := some 34) (v := ?_) (a' := ?_) #[true, true, true, true, true, false, false, false, true, true, true, true, true, true, true, true, false, false, false, false, false] rfl rfl (by kernel_rfl) (fun _ _ _ h => h) (Or.inl ⟨by rfl, ?_⟩) hHeld ?_ ?_
        rotate_left
        · rintro w' ⟨s0, s1, s2⟩
          go_simp
          with_reducible rfl
        rotate_left
        · simp only [Act.put, List.setIfInBounds_toArray, List.set_cons_zero, List.set_cons_succ, i64_w, i32_w]
          rfl
        refine pure_ (i := 16) (N := some 35) (v := ?_) (a' := ?_) #[true, true, true, true, true, false, false, false, true, true, true, true, true, true, true, true, true, false, false, false, false] rfl rfl (by kernel_rfl) (fun _ _ _ h => h) (Or.inl ⟨by rfl, ?_⟩) ?_ ?_
        rotate_left
        · intro w'
          go_simp
          with_reducible rfl
        rotate_left
        · simp only [Act.put, List.setIfInBounds_toArray, List.set_cons_zero, List.set_cons_succ, i64_w, i32_w]
          rfl
        refine join_ (σ := Nat × Value × Nat) 3 #[true, true, true, true, true, true, true, true, true, true, true, true, true, true, true, true, true, true, false, false, false] (fun s => [(24, .int .i64 (rd xs f2)), (25, .slice (some ⟨s.1, 0, none⟩) 1 1), (26, s.2.1), (36, .slice (some ⟨s.2.2, 0, none⟩) 1 1)]) (fun s w' => Two w w' s.2.1 (.slice (some ad3) ys.length c3) (xs ++ [(rd xs f2)]) ys ∧ w'.heap[s.2.2]? = some (.cells #[.int .i64 (wrap64 (rd ys f2 + f3))] 3 (0, 0)) ∧ w'.cell? ⟨gb, 2, none⟩ = some (.int .i64 f2) ∧ w'.cell? ⟨gb, 3, none⟩ = some (.int .i64 f3) ∧ w'.cell? (ad3.add f2.toNat) = some (.int .i64 (rd ys f2))) ?_ ?_
        rotate_left
        · intro hCont
          refine two_ (i := 5) (j := 17) (Ni := some 24) (Nj := some 36) #[true, true, true, true, true, true, false, false, true, true, true, true, true, true, true, true, true, false, false, false, false] #[true, true, true, true, true, false, false, false, true, true, true, true, true, true, true, true, true, true, false, false, false] rfl rfl rfl rfl (by kernel_rfl) (by decide) (by decide) (fun K hK => ?_) (fun K hK => ?_)
          · skip
            have e2 := T.elt _ hi0 hi2
            refine value_ (w1 := ?_) (v := ?_) (by rfl) rfl ?_ ?_
            rotate_left 2
            · go_simp
              constructor
              · rfl
              · rfl
            have B_5 := B
            have T_5 := T
            clear e2
            refine hK.out _ _ ⟨(blk_cell B_5 2).trans rfl, (blk_cell B_5 3).trans rfl, T_5.swap.elt _ hi0 hi3⟩ (fun hHeld => ?_)
            clear hK K
            refine norm_ (a' := ?_) ?_ ?_
            rotate_left
            · show Act.put _ (some 24) _ = _
              simp only [Act.put, List.setIfInBounds_toArray, List.set_cons_zero, List.set_cons_succ, i64_w, i32_w]
              rfl
            refine two_ (i := 6) (j := 17) (Ni := some 25) (Nj := some 36) #[true, true, true, true, true, true, true, false, true, true, true, true, true, true, true, true, true, false, false, false, false] #[true, true, true, true, true, true, false, false, true, true, true, true, true, true, true, true, true, true, false, false, false] rfl rfl rfl rfl (by kernel_rfl) (by decide) (by decide) (fun K hK => ?_) (fun K hK => ?_)
            · skip
              refine value_ (w1 := ?_) (v := ?_) (by rfl) rfl ?_ ?_
              rotate_left 2
              · go_simp
                constructor
                · rfl
                · rfl
              have B_5_6 := blk_alloc B_5 (.cells #[.int .i64 (rd xs f2)] 3)
              have T_5_6 := T_5.below (below_alloc (Below.refl _ _) (.cells #[.int .i64 (rd xs f2)] 3))
              have N6_5_6 := blk_new (V) (.cells #[.int .i64 (rd xs f2)] 3)
              generalize (V).alloc (.cells #[.int .i64 (rd xs f2)] 3) = V_5_6 at *
              generalize (V).heap.size = h6 at *
              refine hK.out _ _ ⟨(blk_cell B_5_6 2).trans rfl, (blk_cell B_5_6 3).trans rfl, T_5_6.swap.elt _ hi0 hi3⟩ (fun hHeld => ?_)
              clear hK K
              refine norm_ (a' := ?_) ?_ ?_
              rotate_left
              · show Act.put _ (some 25) _ = _
                simp only [Act.put, List.setIfInBounds_toArray, List.set_cons_zero, List.set_cons_succ, i64_w, i32_w]
                rfl
              refine two_ (i := 7) (j := 17) (Ni := some 26) (Nj := some 36) #[true, true, true, true, true, true, true, true, true, true, true, true, true, true, true, true, true, false, false, false, false] #[true, true, true, true, true, true, true, false, true, true, true, true, true, true, true, true, true, true, false, false, false] rfl rfl rfl rfl (by kernel_rfl) (by decide) (by decide) (fun K hK => ?_) (fun K hK => ?_)
              · skip
                refine two_append_step (w := w) (by rfl) (.tmp 19) (.tmp 25) rfl (.slice (some ad2) xs.length c2) (.slice (some ad3) ys.length c3) xs ys _ h6 rfl rfl N6_5_6 T_5_6 (by omega) ?_
                intro v7 V_5_6_7 T_5_6_7 g7 at7
                have B_5_6_7 := blk_grown B_5_6 g7 (Kd.R_ne T_5_6.1 B_5_6 (by decide))
                refine hK.out _ _ ⟨(blk_cell B_5_6_7 2).trans rfl, (blk_cell B_5_6_7 3).trans rfl, T_5_6_7.swap.elt _ hi0 hi3⟩ (fun hHeld => ?_)
                clear hK K
                refine norm_ (a' := ?_) ?_ ?_
                rotate_left
                · show Act.put _ (some 26) _ = _
                  simp only [Act.put, List.setIfInBounds_toArray, List.set_cons_zero, List.set_cons_succ, i64_w, i32_w]
                  rfl
                refine one_ (i := 17) (N := some 36) #[true, true, true, true, true, true, true, true, true, true, true, true, true, true, true, true, true, true, false, false, false] rfl rfl (by kernel_rfl) (by decide) (fun K hK => ?_)
                refine value_ (w1 := ?_) (v := ?_) (by rfl) rfl ?_ ?_
                rotate_left 2
                · go_simp
                  constructor
                  · rfl
                  · rfl
                have B_5_6_7_17 := blk_alloc B_5_6_7 (.cells #[.int .i64 (wrap64 (rd ys f2 + f3))] 3)
                have T_5_6_7_17 := T_5_6_7.below (below_alloc (Below.refl _ _) (.cells #[.int .i64 (wrap64 (rd ys f2 + f3))] 3))
                have N17_5_6_7_17 := blk_new (V_5_6_7) (.cells #[.int .i64 (wrap64 (rd ys f2 + f3))] 3)
                have Q17_5_6_7_17 := T_5_6_7.swap.fresh _ (Nat.le_refl (V_5_6_7).heap.size)
                generalize (V_5_6_7).alloc (.cells #[.int .i64 (wrap64 (rd ys f2 + f3))] 3) = V_5_6_7_17 at *
                generalize (V_5_6_7).heap.size = h17 at *
                refine hK.out _ _ ⟨(blk_cell B_5_6_7_17 2).trans rfl, (blk_cell B_5_6_7_17 3).trans rfl, T_5_6_7_17.swap.elt _ hi0 hi3⟩ (fun hHeld => ?_)
                clear hK K
                refine norm_ (a' := ?_) ?_ ?_
                rotate_left
                · show Act.put _ (some 36) _ = _
                  simp only [Act.put, List.setIfInBounds_toArray, List.set_cons_zero, List.set_cons_succ, i64_w, i32_w]
                  rfl
                exact norm_ (by simp only [putAll, Act.put, List.setIfInBounds_toArray, List.set_cons_zero, List.set_cons_succ]) (hCont (h6, v7, h17) _ ⟨T_5_6_7_17, N17_5_6_7_17, (blk_cell B_5_6_7_17 2).trans rfl, (blk_cell B_5_6_7_17 3).trans rfl, T_5_6_7_17.swap.elt _ hi0 hi3⟩)
              · skip
                refine value_ (w1 := ?_) (v := ?_) (by rfl) rfl ?_ ?_
                rotate_left 2
                · go_simp
                  constructor
                  · rfl
                  · rfl
                have B_5_6_17 := blk_alloc B_5_6 (.cells #[.int .i64 (wrap64 (rd ys f2 + f3))] 3)
                have T_5_6_17 := T_5_6.below (below_alloc (Below.refl _ _) (.cells #[.int .i64 (wrap64 (rd ys f2 + f3))] 3))
                have N17_5_6_17 := blk_new (V_5_6) (.cells #[.int .i64 (wrap64 (rd ys f2 + f3))] 3)
                have Q17_5_6_17 := T_5_6.swap.fresh _ (Nat.le_refl (V_5_6).heap.size)
                have N6_5_6_17 := blk_alloc N6_5_6 (.cells #[.int .i64 (wrap64 (rd ys f2 + f3))] 3)
                generalize (V_5_6).alloc (.cells #[.int .i64 (wrap64 (rd ys f2 + f3))] 3) = V_5_6_17 at *
                generalize (V_5_6).heap.size = h17 at *
                refine hK.out _ _ ⟨(blk_cell B_5_6_17 2).trans rfl, (blk_cell B_5_6_17 3).trans rfl, T_5_6_17.swap.elt _ hi0 hi3⟩ (fun hHeld => ?_)
                clear hK K
                refine norm_ (a' := ?_) ?_ ?_
                rotate_left
                · show Act.put _ (some 36) _ = _
                  simp only [Act.put, List.setIfInBounds_toArray, List.set_cons_zero, List.set_cons_succ, i64_w, i32_w]
                  rfl
                refine one_ (i := 7) (N := some 26) #[true, true, true, true, true, true, true, true, true, true, true, true, true, true, true, true, true, true, false, false, false] rfl rfl (by kernel_rfl) (by decide) (fun K hK => ?_)
                refine two_append_step (w := w) (by rfl) (.tmp 19) (.tmp 25) rfl (.slice (some ad2) xs.length c2) (.slice (some ad3) ys.length c3) xs ys _ h6 rfl rfl N6_5_6_17 T_5_6_17 (by omega) ?_
                intro v7 V_5_6_17_7 T_5_6_17_7 g7 at7
                have B_5_6_17_7 := blk_grown B_5_6_17 g7 (Kd.R_ne T_5_6_17.1 B_5_6_17 (by decide))
                have N17_5_6_17_7 := blk_grown N17_5_6_17 g7 Q17_5_6_17
                refine hK.out _ _ ⟨(blk_cell B_5_6_17_7 2).trans rfl, (blk_cell B_5_6_17_7 3).trans rfl, T_5_6_17_7.swap.elt _ hi0 hi3⟩ (fun hHeld => ?_)
                clear hK K
                refine norm_ (a' := ?_) ?_ ?_
                rotate_left
                · show Act.put _ (some 26) _ = _
                  simp only [Act.put, List.setIfInBounds_toArray, List.set_cons_zero, List.set_cons_succ, i64_w, i32_w]
                  rfl
                exact norm_ (by simp only [putAll, Act.put, List.setIfInBounds_toArray, List.set_cons_zero, List.set_cons_succ]) (hCont (h6, v7, h17) _ ⟨T_5_6_17_7, N17_5_6_17_7, (blk_cell B_5_6_17_7 2).trans rfl, (blk_cell B_5_6_17_7 3).trans rfl, T_5_6_17_7.swap.elt _ hi0 hi3⟩)
            · skip
              refine value_ (w1 := ?_) (v := ?_) (by rfl) rfl ?_ ?_
              rotate_left 2
              · go_simp
                constructor
                · rfl
                · rfl
              have B_5_17 := blk_alloc B_5 (.cells #[.int .i64 (wrap64 (rd ys f2 + f3))] 3)
              have T_5_17 := T_5.below (below_alloc (Below.refl _ _) (.cells #[.int .i64 (wrap64 (rd ys f2 + f3))] 3))
              have N17_5_17 := blk_new (V) (.cells #[.int .i64 (wrap64 (rd ys f2 + f3))] 3)
              have Q17_5_17 := T_5.swap.fresh _ (Nat.le_refl (V).heap.size)
              generalize (V).alloc (.cells #[.int .i64 (wrap64 (rd ys f2 + f3))] 3) = V_5_17 at *
              generalize (V).heap.size = h17 at *
              refine hK.out _ _ ⟨(blk_cell B_5_17 2).trans rfl, (blk_cell B_5_17 3).trans rfl, T_5_17.swap.elt _ hi0 hi3⟩ (fun hHeld => ?_)
              clear hK K
              refine norm_ (a' := ?_) ?_ ?_
              rotate_left
              · show Act.put _ (some 36) _ = _
                simp only [Act.put, List.setIfInBounds_toArray, List.set_cons_zero, List.set_cons_succ, i64_w, i32_w]
                rfl
              refine one_ (i := 6) (N := some 25) #[true, true, true, true, true, true, true, false, true, true, true, true, true, true, true, true, true, true, false, false, false] rfl rfl (by kernel_rfl) (by decide) (fun K hK => ?_)
              refine value_ (w1 := ?_) (v := ?_) (by rfl) rfl ?_ ?_
              rotate_left 2
              · go_simp
                constructor
                · rfl
                · rfl
              have B_5_17_6 := blk_alloc B_5_17 (.cells #[.int .i64 (rd xs f2)] 3)
              have T_5_17_6 := T_5_17.below (below_alloc (Below.refl _ _) (.cells #[.int .i64 (rd xs f2)] 3))
              have N6_5_17_6 := blk_new (V_5_17) (.cells #[.int .i64 (rd xs f2)] 3)
              have N17_5_17_6 := blk_alloc N17_5_17 (.cells #[.int .i64 (rd xs f2)] 3)
              have Q17_5_17_6 := Q17_5_17
              generalize (V_5_17).alloc (.cells #[.int .i64 (rd xs f2)] 3) = V_5_17_6 at *
              generalize (V_5_17).heap.size = h6 at *
              refine hK.out _ _ ⟨(blk_cell B_5_17_6 2).trans rfl, (blk_cell B_5_17_6 3).trans rfl, T_5_17_6.swap.elt _ hi0 hi3⟩ (fun hHeld => ?_)
              clear hK K
              refine norm_ (a' := ?_) ?_ ?_
              rotate_left
              · show Act.put _ (some 25) _ = _
                simp only [Act.put, List.setIfInBounds_toArray, List.set_cons_zero, List.set_cons_succ, i64_w, i32_w]
                rfl
              refine one_ (i := 7) (N := some 26) #[true, true, true, true, true, true, true, true, true, true, true, true, true, true, true, true, true, true, false, false, false] rfl rfl (by kernel_rfl) (by decide) (fun K hK => ?_)
              refine two_append_step (w := w) (by rfl) (.tmp 19) (.tmp 25) rfl (.slice (some ad2) xs.length c2) (.slice (some ad3) ys.length c3) xs ys _ h6 rfl rfl N6_5_17_6 T_5_17_6 (by omega) ?_
              intro v7 V_5_17_6_7 T_5_17_6_7 g7 at7
              have B_5_17_6_7 := blk_grown B_5_17_6 g7 (Kd.R_ne T_5_17_6.1 B_5_17_6 (by decide))
              have N17_5_17_6_7 := blk_grown N17_5_17_6 g7 Q17_5_17_6
              refine hK.out _ _ ⟨(blk_cell B_5_17_6_7 2).trans rfl, (blk_cell B_5_17_6_7 3).trans rfl, T_5_17_6_7.swap.elt _ hi0 hi3⟩ (fun hHeld => ?_)
              clear hK K
              refine norm_ (a' := ?_) ?_ ?_
              rotate_left
              · show Act.put _ (some 26) _ = _
                simp only [Act.put, List.setIfInBounds_toArray, List.set_cons_zero, List.set_cons_succ, i64_w, i32_w]
                rfl
              exact norm_ (by simp only [putAll, Act.put, List.setIfInBounds_toArray, List.set_cons_zero, List.set_cons_succ]) (hCont (h6, v7, h17) _ ⟨T_5_17_6_7, N17_5_17_6_7, (blk_cell B_5_17_6_7 2).trans rfl, (blk_cell B_5_17_6_7 3).trans rfl, T_5_17_6_7.swap.elt _ hi0 hi3⟩)
          · skip
            refine value_ (w1 := ?_) (v := ?_) (by rfl) rfl ?_ ?_
            rotate_left 2
            · go_simp
              constructor
              · rfl
              · rfl
            have B_17 := blk_alloc B (.cells #[.int .i64 (wrap64 (rd ys f2 + f3))] 3)
            have T_17 := T.below (below_alloc (Below.refl _ _) (.cells #[.int .i64 (wrap64 (rd ys f2 + f3))] 3))
            have N17_17 := blk_new (V) (.cells #[.int .i64 (wrap64 (rd ys f2 + f3))] 3)
            have Q17_17 := T.swap.fresh _ (Nat.le_refl (V).heap.size)
            generalize (V).alloc (.cells #[.int .i64 (wrap64 (rd ys f2 + f3))] 3) = V_17 at *
            generalize (V).heap.size = h17 at *
            refine hK.out _ _ ⟨(blk_cell B_17 2).trans rfl, (blk_cell B_17 3).trans rfl, T_17.swap.elt _ hi0 hi3⟩ (fun hHeld => ?_)
            clear hK K
            refine norm_ (a' := ?_) ?_ ?_
            rotate_left
            · show Act.put _ (some 36) _ = _
              simp only [Act.put, List.setIfInBounds_toArray, List.set_cons_zero, List.set_cons_succ, i64_w, i32_w]
              rfl
            refine one_ (i := 5) (N := some 24) #[true, true, true, true, true, true, false, false, true, true, true, true, true, true, true, true, true, true, false, false, false] rfl rfl (by kernel_rfl) (by decide) (fun K hK => ?_)
            have e2 := T_17.elt _ hi0 hi2
            refine value_ (w1 := ?_) (v := ?_) (by rfl) rfl ?_ ?_
            rotate_left 2
            · go_simp
              constructor
              · rfl
              · rfl
            have B_17_5 := B_17
            have T_17_5 := T_17
            have N17_17_5 := N17_17
            have Q17_17_5 := Q17_17
            clear e2
            refine hK.out _ _ ⟨(blk_cell B_17_5 2).trans rfl, (blk_cell B_17_5 3).trans rfl, T_17_5.swap.elt _ hi0 hi3⟩ (fun hHeld => ?_)
            clear hK K
            refine norm_ (a' := ?_) ?_ ?_
            rotate_left
            · show Act.put _ (some 24) _ = _
              simp only [Act.put, List.setIfInBounds_toArray, List.set_cons_zero, List.set_cons_succ, i64_w, i32_w]
              rfl
            refine one_ (i := 6) (N := some 25) #[true, true, true, true, true, true, true, false, true, true, true, true, true, true, true, true, true, true, false, false, false] rfl rfl (by kernel_rfl) (by decide) (fun K hK => ?_)
            refine value_ (w1 := ?_) (v := ?_) (by rfl) rfl ?_ ?_
            rotate_left 2
            · go_simp
              constructor
              · rfl
              · rfl
            have B_17_5_6 := blk_alloc B_17_5 (.cells #[.int .i64 (rd xs f2)] 3)
            have T_17_5_6 := T_17_5.below (below_alloc (Below.refl _ _) (.cells #[.int .i64 (rd xs f2)] 3))
            have N6_17_5_6 := blk_new (V_17) (.cells #[.int .i64 (rd xs f2)] 3)
            have N17_17_5_6 := blk_alloc N17_17_5 (.cells #[.int .i64 (rd xs f2)] 3)
            have Q17_17_5_6 := Q17_17_5
            generalize (V_17).alloc (.cells #[.int .i64 (rd xs f2)] 3) = V_17_5_6 at *
            generalize (V_17).heap.size = h6 at *
            refine hK.out _ _ ⟨(blk_cell B_17_5_6 2).trans rfl, (blk_cell B_17_5_6 3).trans rfl, T_17_5_6.swap.elt _ hi0 hi3⟩ (fun hHeld => ?_)
            clear hK K
            refine norm_ (a' := ?_) ?_ ?_
            rotate_left
            · show Act.put _ (some 25) _ = _
              simp only [Act.put, List.setIfInBounds_toArray, List.set_cons_zero, List.set_cons_succ, i64_w, i32_w]
              rfl
            refine one_ (i := 7) (N := some 26) #[true, true, true, true, true, true, true, true, true, true, true, true, true, true, true, true, true, true, false, false, false] rfl rfl (by kernel_rfl) (by decide) (fun K hK => ?_)
            refine two_append_step (w := w) (by rfl) (.tmp 19) (.tmp 25) rfl (.slice (some ad2) xs.length c2) (.slice (some ad3) ys.length c3) xs ys _ h6 rfl rfl N6_17_5_6 T_17_5_6 (by omega) ?_
            intro v7 V_17_5_6_7 T_17_5_6_7 g7 at7
            have B_17_5_6_7 := blk_grown B_17_5_6 g7 (Kd.R_ne T_17_5_6.1 B_17_5_6 (by decide))
            have N17_17_5_6_7 := blk_grown N17_17_5_6 g7 Q17_17_5_6
            refine hK.out _ _ ⟨(blk_cell B_17_5_6_7 2).trans rfl, (blk_cell B_17_5_6_7 3).trans rfl, T_17_5_6_7.swap.elt _ hi0 hi3⟩ (fun hHeld => ?_)
            clear hK K
            refine norm_ (a' := ?_) ?_ ?_
            rotate_left
            · show Act.put _ (some 26) _ = _
              simp only [Act.put, List.setIfInBounds_toArray, List.set_cons_zero, List.set_cons_succ, i64_w, i32_w]
              rfl
            exact norm_ (by simp only [putAll, Act.put, List.setIfInBounds_toArray, List.set_cons_zero, List.set_cons_succ]) (hCont (h6, v7, h17) _ ⟨T_17_5_6_7, N17_17_5_6_7, (blk_cell B_17_5_6_7 2).trans rfl, (blk_cell B_17_5_6_7 3).trans rfl, T_17_5_6_7.swap.elt _ hi0 hi3⟩)
        rintro ⟨h6, v7, h17⟩ w' ⟨T, N17, s0, s1, s2⟩
        have hHeld : w'.cell? ⟨gb, 2, none⟩ = some (.int .i64 f2) ∧ w'.cell? ⟨gb, 3, none⟩ = some (.int .i64 f3) ∧ w'.cell? (ad3.add f2.toNat) = some (.int .i64 (rd ys f2)) := ⟨s0, s1, s2⟩
        refine norm_ (a' := ?_) ?_ ?_
        rotate_left
        · simp only [putAll, Act.put, List.setIfInBounds_toArray, List.set_cons_zero, List.set_cons_succ]
          rfl
        refine last_ (i := 18) (N := some 37) #[true, true, true, true, true, true, true, true, true, true, true, true, true, true, true, true, true, true, true, false, false] rfl rfl (by kernel_rfl) (by decide) (fun K hK => ?_)
        refine two_append_step (w := w) (by rfl) (.tmp 27) (.tmp 36) rfl (.slice (some ad3) ys.length c3) v7 ys (xs ++ [(rd xs f2)]) _ h17 rfl rfl N17 T.swap (by omega) ?_
        intro v18 V18 T18 g18 at18
        refine hK.out _ _ ?_
        clear hK K
        refine norm_ (a' := ?_) ?_ ?_
        rotate_left
        · show Act.put _ (some 37) _ = _
          simp only [Act.put, List.setIfInBounds_toArray, List.set_cons_zero, List.set_cons_succ, i64_w, i32_w]
          rfl
        refine pure_ (i := 19) (N := some 2) (v := ?_) (a' := ?_) #[true, true, true, true, true, true, true, true, true, true, true, true, true, true, true, true, true, true, true, true, false] rfl rfl (by kernel_rfl) (fun _ _ _ h => h) (Or.inl ⟨by rfl, ?_⟩) ?_ ?_
        rotate_left
        · intro w'
          go_simp
          with_reducible rfl
        rotate_left
        · simp only [Act.put, List.setIfInBounds_toArray, List.set_cons_zero, List.set_cons_succ, i64_w, i32_w]
          rfl
        refine pure_ (i := 20) (N := some 3) (v := ?_) (a' := ?_) #[true, true, true, true, true, true, true, true, true, true, true, true, true, true, true, true, true, true, true, true, true] rfl rfl (by kernel_rfl) (fun _ _ _ h => h) (Or.inl ⟨by rfl, ?_⟩) ?_ ?_
        rotate_left
        · intro w'
          go_simp
          with_reducible rfl
        rotate_left
        · simp only [Act.put, List.setIfInBounds_toArray, List.set_cons_zero, List.set_cons_succ, i64_w, i32_w]
          rfl
        refine done_ (by kernel_rfl) ?_
        go_wp2_with fail
        go_roundw
        case rel => exact ⟨j + 1, by go_num, by omega, by rw [HW.out]; exact ⟨T18.swap⟩⟩
        case measure => simp [intOf]; omega
      · have k2b : ((rd_T80 E (j : Int)).f1 == 2) = false := by simpa using k2
        have hw : rdL E (j + 1) = ((rdL E j).1 ++ [(j : Int)], (rdL E j).2 ++ [0]) := by rw [rdL, if_neg k2]
        have HW := Aside0.mk hw
        clear k2 hw
        generalize rdL E j = q at HO HL HW
        obtain ⟨xs, ys⟩ := q
        go_wp2_with (first | ((with_reducible refine gate_builtin (b := .append) (xs := #[.tmp 38, .tmp 40]) rfl ?_); at_builtin; refine two_append rfl (.tmp 38) (.tmp 40) rfl _ _ xs ys _ rfl (by first | (go_simp; done) | (go_simp; rfl)) (HO.out.below (below_alloc (Below.refl _ _) _)) (by have := HL.out; simp only at this; omega) ?_; intro v1 w1 hT1; have HO1 := Aside0.mk hT1; clear hT1 x0 x1 x2 x3 x4 x5) | ((with_reducible refine gate_builtin (b := .append) (xs := #[.tmp 42, .tmp 43]) rfl ?_); at_builtin; refine two_append rfl (.tmp 42) (.tmp 43) rfl _ _ ys (xs ++ [(j : Int)]) _ rfl (by first | (go_simp; done) | (go_simp; rfl)) HO1.out.swap (by have := HL.out; simp only at this; omega) ?_; intro v4 w4 hT4; have HO4 := Aside0.mk hT4.swap; clear hT4))
        go_roundw
        case rel => exact ⟨j + 1, by go_num, by omega, by rw [HW.out]; exact HO4⟩
        case measure => simp [intOf]; omega
    · have hltb : decide ((j : Int) < (E.length : Int)) = false := by simpa using hlt
      have hj' : j = E.length := by omega
      have HJ := Aside0.mk hj'
      clear hj'
      go_wp2_with fail
      go_ret2
      refine ⟨_, _, rfl, ?_⟩
      have := HO.out
      rw [HJ.out] at this
      exact this
end Go.Proofs.Ytlfopemghafboaa.D
