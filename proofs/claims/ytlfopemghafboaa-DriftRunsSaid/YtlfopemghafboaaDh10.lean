/- Contracts of functions that the law reaches, each a walk through its code. No condition beyond each theorem's own hypotheses. -/
import Derived.Test.YtlfopemghafboaaDh9
import Derived.WalkSpells
import Derived.Handy
import Derived.StillTailTactics
import Derived.IntWalk
namespace Go.Proofs.Ytlfopemghafboaa.D
open Go.RowKit Go.Proofs.YtlfopemghafboaaW.PrintWords Go.Proofs.YtlfopemghafboaaW.PrintLast Go.Proofs.YtlfopemghafboaaW.PrintMore
set_option linter.unusedVariables false
set_option linter.unusedSimpArgs false
theorem info4 : (Try.prog.info? 4).map (fun i => (i.zero, i.size, i.bytes)) = some (some (.bool false), 1, 1) := by kernel_rfl
theorem made_ints (n : Nat) : madeCells #[.int .i64 0] n = ints (List.replicate n 0) := by
  unfold madeCells ints
  apply Array.ext
  · simp
  · intro i h1 h2
    simp [Nat.mod_one]
theorem made_bools (n : Nat) : madeCells #[.bool false] n = boolsA (List.replicate n false) := by
  unfold madeCells boolsA
  apply Array.ext
  · simp
  · intro i h1 h2
    simp [Nat.mod_one]
theorem mk28 (n : Nat) (hn : n ≤ 1000) (W : World) : (Instr.makeSlice 28 (.int .i64 (n : Int)) (.int .i64 (n : Int))).run Try.prog W = .ok (.slice (some ⟨W.heap.size, 0, none⟩) n n) (W.alloc (.cells (ints (List.replicate n 0)) 3)) := by
  rw [← made_ints]
  exact print_make_of 28 3 (.int .i64 0) 8 Try.underlying28 info3 rfl (by omega) n (by omega) W
theorem mk119 (n : Nat) (hn : n ≤ 1000) (W : World) : (Instr.makeSlice 119 (.int .i64 (n : Int)) (.int .i64 (n : Int))).run Try.prog W = .ok (.slice (some ⟨W.heap.size, 0, none⟩) n n) (W.alloc (.cells (boolsA (List.replicate n false)) 4)) := by
  rw [← made_bools]
  exact print_make_of 119 4 (.bool false) 1 Try.underlying119 info4 rfl (by omega) n (by omega) W
def initHas (n : Nat) (e : Int) : List Bool := if e < 0 then List.replicate n true else (List.replicate n false).set e.toNat true
def fromLoop (l : List S27) : Nat → RS → Int → RS × Int
  | 0, st, c => (st, c)
  | k + 1, st, c => if (rloop l ⟨st.sum, st.has, st.last, -1⟩ l.length).out < 0 then (rloop l ⟨st.sum, st.has, st.last, -1⟩ l.length, -1) else fromLoop l k (rloop l ⟨st.sum, st.has, st.last, -1⟩ l.length) (rloop l ⟨st.sum, st.has, st.last, -1⟩ l.length).out
def fromF (l : List S27) (n : Nat) (e : Int) : RS × Int := fromLoop l n ⟨List.replicate n 0, initHas n e, List.replicate n (-1), -1⟩ 0
theorem set_step {α : Type} (a b : α) (n j : Nat) (hj : j < n) : (List.replicate j a ++ List.replicate (n - j) b).set j a = List.replicate (j + 1) a ++ List.replicate (n - (j + 1)) b := by
  rw [List.set_append, if_neg (by simp)]
  have e : n - j = (n - (j + 1)) + 1 := by omega
  simp only [List.length_replicate, Nat.sub_self]
  rw [e, List.replicate_succ, List.set_cons_zero, List.replicate_succ', List.append_assoc]
  rfl
set_option maxHeartbeats 3200000 in
set_option maxRecDepth 100000 in
theorem from_any (A : Option Addr) (c : Nat) (l : List S27) (n : Nat) (e : Int) (w : World) (hn1 : 1 ≤ n) (hn : n ≤ 100) (he : e < n) (hr : Kd.C k27 w A l.length l) (hl : l.length ≤ 1000000)
    (hv : ∀ i : Nat, i < l.length → (0 ≤ (rd_T27 l i).f0 ∧ (rd_T27 l i).f0 < n) ∧ (0 ≤ (rd_T27 l i).f1 ∧ (rd_T27 l i).f1 < n)) :
    Calls Try.prog 85 #[.slice A l.length c, .int .i64 n, .int .i64 e] w fun e' w' => ∃ g b1 b2 b3, e' = .returned (.tuple #[.pointer (some ⟨g, 0, none⟩), .int .i64 (fromF l n e).2]) ∧ Roads w w' g b1 b2 b3 n A l.length c (fromF l n e).1.sum (fromF l n e).1.has (fromF l n e).1.last := by
  have HC := Aside0.mk hr
  have HV := Aside0.mk hv
  clear hr hv
  have k28 := mk28 n (by omega)
  have k119 := mk119 n (by omega)
  go_enter Try.func85, Try.ntmps85
  go_wp2_with fail
  refine start_ (n := 10) (S := fun w' => True) (ds := []) #[false, false, false, false, false, false, false, false, false, false] (by kernel_rfl) rfl rfl trivial (fun hHeld => ?_)
  have HB := below_drew1 (Below.refl w.heap.size w)
  generalize w.drew = V at *
  refine pure_ (i := 0) (N := some 10) (v := ?_) (a' := ?_) #[true, false, false, false, false, false, false, false, false, false] rfl rfl (by kernel_rfl) (fun _ _ _ h => h) (Or.inl ⟨by rfl, ?_⟩) ?_ ?_
  rotate_left
  · intro w'
    go_simp
    with_reducible rfl
  rotate_left
  · simp only [Act.put, List.setIfInBounds_toArray, List.set_cons_zero, List.set_cons_succ, i64_w, i32_w]
    rfl
  refine pure_ (i := 1) (N := some 11) (v := ?_) (a' := ?_) #[true, true, false, false, false, false, false, false, false, false] rfl rfl (by kernel_rfl) (fun _ _ _ h => h) (Or.inl ⟨by rfl, ?_⟩) ?_ ?_
  rotate_left
  · intro w'
    go_simp
    with_reducible rfl
  rotate_left
  · simp only [Act.put, List.setIfInBounds_toArray, List.set_cons_zero, List.set_cons_succ, i64_w, i32_w]
    rfl
  refine pure_ (i := 3) (N := some 13) (v := ?_) (a' := ?_) #[true, true, false, true, false, false, false, false, false, false] rfl rfl (by kernel_rfl) (fun _ _ _ h => h) (Or.inl ⟨by rfl, ?_⟩) ?_ ?_
  rotate_left
  · intro w'
    go_simp
    with_reducible rfl
  rotate_left
  · simp only [Act.put, List.setIfInBounds_toArray, List.set_cons_zero, List.set_cons_succ, i64_w, i32_w]
    rfl
  refine pure_ (i := 5) (N := some 15) (v := ?_) (a' := ?_) #[true, true, false, true, false, true, false, false, false, false] rfl rfl (by kernel_rfl) (fun _ _ _ h => h) (Or.inl ⟨by rfl, ?_⟩) ?_ ?_
  rotate_left
  · intro w'
    go_simp
    with_reducible rfl
  rotate_left
  · simp only [Act.put, List.setIfInBounds_toArray, List.set_cons_zero, List.set_cons_succ, i64_w, i32_w]
    rfl
  refine join_ (σ := Nat × Nat × Nat) 3 #[true, true, true, true, true, true, true, false, false, false] (fun s => [(12, .slice (some ⟨s.1, 0, none⟩) n n), (14, .slice (some ⟨s.2.1, 0, none⟩) n n), (16, .slice (some ⟨s.2.2, 0, none⟩) n n)]) (fun s w' => w'.heap[s.1]? = some (.cells (ints (List.replicate n 0)) 3 (0, 0)) ∧ w'.heap[s.2.1]? = some (.cells (boolsA (List.replicate n false)) 4 (0, 0)) ∧ w'.heap[s.2.2]? = some (.cells (ints (List.replicate n 0)) 3 (0, 0)) ∧ s.1 ≠ s.2.2 ∧ w.heap.size ≤ s.1 ∧ w.heap.size ≤ s.2.1 ∧ w.heap.size ≤ s.2.2 ∧ Below w.heap.size w w') ?_ ?_
  rotate_left
  · intro hCont
    refine three_ (i := 2) (j := 4) (k := 6) (Ni := some 12) (Nj := some 14) (Nk := some 16) #[true, true, true, true, false, true, false, false, false, false] #[true, true, false, true, true, true, false, false, false, false] #[true, true, false, true, false, true, true, false, false, false] rfl rfl rfl rfl rfl rfl (by kernel_rfl) (by decide) (by decide) (by decide) (fun K hK => ?_) (fun K hK => ?_) (fun K hK => ?_)
    · skip
      refine value_ (w1 := ?_) (v := ?_) (by rfl) rfl ?_ ?_
      rotate_left 2
      · go_simp
        constructor
        · rfl
        · rfl
      have HB_2 := below_step HB (below_alloc (Below.refl _ V) (.cells (ints (List.replicate n 0)) 3))
      have N2_2 := blk_new V (.cells (ints (List.replicate n 0)) 3)
      have G2_2 := HB.size
      generalize V.alloc (.cells (ints (List.replicate n 0)) 3) = V_2 at *
      generalize V.heap.size = h2 at *
      refine hK.out _ _ trivial (fun hHeld => ?_)
      clear hK K
      refine norm_ (a' := ?_) ?_ ?_
      rotate_left
      · show Act.put _ (some 12) _ = _
        simp only [Act.put, List.setIfInBounds_toArray, List.set_cons_zero, List.set_cons_succ, i64_w, i32_w]
        rfl
      refine two_ (i := 4) (j := 6) (Ni := some 14) (Nj := some 16) #[true, true, true, true, true, true, false, false, false, false] #[true, true, true, true, false, true, true, false, false, false] rfl rfl rfl rfl (by kernel_rfl) (by decide) (by decide) (fun K hK => ?_) (fun K hK => ?_)
      · skip
        refine value_ (w1 := ?_) (v := ?_) (by rfl) rfl ?_ ?_
        rotate_left 2
        · go_simp
          constructor
          · rfl
          · rfl
        have HB_2_4 := below_step HB_2 (below_alloc (Below.refl _ V_2) (.cells (boolsA (List.replicate n false)) 4))
        have N2_2_4 := blk_alloc N2_2 (.cells (boolsA (List.replicate n false)) 4)
        have L2_2_4 := blk_lt N2_2
        have N4_2_4 := blk_new V_2 (.cells (boolsA (List.replicate n false)) 4)
        have G4_2_4 := HB_2.size
        have G2_2_4 := G2_2
        generalize V_2.alloc (.cells (boolsA (List.replicate n false)) 4) = V_2_4 at *
        generalize V_2.heap.size = h4 at *
        refine hK.out _ _ trivial (fun hHeld => ?_)
        clear hK K
        refine norm_ (a' := ?_) ?_ ?_
        rotate_left
        · show Act.put _ (some 14) _ = _
          simp only [Act.put, List.setIfInBounds_toArray, List.set_cons_zero, List.set_cons_succ, i64_w, i32_w]
          rfl
        refine one_ (i := 6) (N := some 16) #[true, true, true, true, true, true, true, false, false, false] rfl rfl (by kernel_rfl) (by decide) (fun K hK => ?_)
        refine value_ (w1 := ?_) (v := ?_) (by rfl) rfl ?_ ?_
        rotate_left 2
        · go_simp
          constructor
          · rfl
          · rfl
        have HB_2_4_6 := below_step HB_2_4 (below_alloc (Below.refl _ V_2_4) (.cells (ints (List.replicate n 0)) 3))
        have N2_2_4_6 := blk_alloc N2_2_4 (.cells (ints (List.replicate n 0)) 3)
        have L2_2_4_6 := blk_lt N2_2_4
        have N4_2_4_6 := blk_alloc N4_2_4 (.cells (ints (List.replicate n 0)) 3)
        have L4_2_4_6 := blk_lt N4_2_4
        have N6_2_4_6 := blk_new V_2_4 (.cells (ints (List.replicate n 0)) 3)
        have G6_2_4_6 := HB_2_4.size
        have G2_2_4_6 := G2_2_4
        have G4_2_4_6 := G4_2_4
        generalize V_2_4.alloc (.cells (ints (List.replicate n 0)) 3) = V_2_4_6 at *
        generalize V_2_4.heap.size = h6 at *
        have NE_2_4_6 : h2 ≠ h6 := by omega
        refine hK.out _ _ trivial (fun hHeld => ?_)
        clear hK K
        refine norm_ (a' := ?_) ?_ ?_
        rotate_left
        · show Act.put _ (some 16) _ = _
          simp only [Act.put, List.setIfInBounds_toArray, List.set_cons_zero, List.set_cons_succ, i64_w, i32_w]
          rfl
        exact norm_ (by simp only [putAll, Act.put, List.setIfInBounds_toArray, List.set_cons_zero, List.set_cons_succ]) (hCont (h2, h4, h6) _ ⟨N2_2_4_6, N4_2_4_6, N6_2_4_6, NE_2_4_6, G2_2_4_6, G4_2_4_6, G6_2_4_6, HB_2_4_6⟩)
      · skip
        refine value_ (w1 := ?_) (v := ?_) (by rfl) rfl ?_ ?_
        rotate_left 2
        · go_simp
          constructor
          · rfl
          · rfl
        have HB_2_6 := below_step HB_2 (below_alloc (Below.refl _ V_2) (.cells (ints (List.replicate n 0)) 3))
        have N2_2_6 := blk_alloc N2_2 (.cells (ints (List.replicate n 0)) 3)
        have L2_2_6 := blk_lt N2_2
        have N6_2_6 := blk_new V_2 (.cells (ints (List.replicate n 0)) 3)
        have G6_2_6 := HB_2.size
        have G2_2_6 := G2_2
        generalize V_2.alloc (.cells (ints (List.replicate n 0)) 3) = V_2_6 at *
        generalize V_2.heap.size = h6 at *
        have NE_2_6 : h2 ≠ h6 := by omega
        refine hK.out _ _ trivial (fun hHeld => ?_)
        clear hK K
        refine norm_ (a' := ?_) ?_ ?_
        rotate_left
        · show Act.put _ (some 16) _ = _
          simp only [Act.put, List.setIfInBounds_toArray, List.set_cons_zero, List.set_cons_succ, i64_w, i32_w]
          rfl
        refine one_ (i := 4) (N := some 14) #[true, true, true, true, true, true, true, false, false, false] rfl rfl (by kernel_rfl) (by decide) (fun K hK => ?_)
        refine value_ (w1 := ?_) (v := ?_) (by rfl) rfl ?_ ?_
        rotate_left 2
        · go_simp
          constructor
          · rfl
          · rfl
        have HB_2_6_4 := below_step HB_2_6 (below_alloc (Below.refl _ V_2_6) (.cells (boolsA (List.replicate n false)) 4))
        have N2_2_6_4 := blk_alloc N2_2_6 (.cells (boolsA (List.replicate n false)) 4)
        have L2_2_6_4 := blk_lt N2_2_6
        have N6_2_6_4 := blk_alloc N6_2_6 (.cells (boolsA (List.replicate n false)) 4)
        have L6_2_6_4 := blk_lt N6_2_6
        have N4_2_6_4 := blk_new V_2_6 (.cells (boolsA (List.replicate n false)) 4)
        have G4_2_6_4 := HB_2_6.size
        have G2_2_6_4 := G2_2_6
        have G6_2_6_4 := G6_2_6
        generalize V_2_6.alloc (.cells (boolsA (List.replicate n false)) 4) = V_2_6_4 at *
        generalize V_2_6.heap.size = h4 at *
        have NE_2_6_4 := NE_2_6
        refine hK.out _ _ trivial (fun hHeld => ?_)
        clear hK K
        refine norm_ (a' := ?_) ?_ ?_
        rotate_left
        · show Act.put _ (some 14) _ = _
          simp only [Act.put, List.setIfInBounds_toArray, List.set_cons_zero, List.set_cons_succ, i64_w, i32_w]
          rfl
        exact norm_ (by simp only [putAll, Act.put, List.setIfInBounds_toArray, List.set_cons_zero, List.set_cons_succ]) (hCont (h2, h4, h6) _ ⟨N2_2_6_4, N4_2_6_4, N6_2_6_4, NE_2_6_4, G2_2_6_4, G4_2_6_4, G6_2_6_4, HB_2_6_4⟩)
    · skip
      refine value_ (w1 := ?_) (v := ?_) (by rfl) rfl ?_ ?_
      rotate_left 2
      · go_simp
        constructor
        · rfl
        · rfl
      have HB_4 := below_step HB (below_alloc (Below.refl _ V) (.cells (boolsA (List.replicate n false)) 4))
      have N4_4 := blk_new V (.cells (boolsA (List.replicate n false)) 4)
      have G4_4 := HB.size
      generalize V.alloc (.cells (boolsA (List.replicate n false)) 4) = V_4 at *
      generalize V.heap.size = h4 at *
      refine hK.out _ _ trivial (fun hHeld => ?_)
      clear hK K
      refine norm_ (a' := ?_) ?_ ?_
      rotate_left
      · show Act.put _ (some 14) _ = _
        simp only [Act.put, List.setIfInBounds_toArray, List.set_cons_zero, List.set_cons_succ, i64_w, i32_w]
        rfl
      refine two_ (i := 2) (j := 6) (Ni := some 12) (Nj := some 16) #[true, true, true, true, true, true, false, false, false, false] #[true, true, false, true, true, true, true, false, false, false] rfl rfl rfl rfl (by kernel_rfl) (by decide) (by decide) (fun K hK => ?_) (fun K hK => ?_)
      · skip
        refine value_ (w1 := ?_) (v := ?_) (by rfl) rfl ?_ ?_
        rotate_left 2
        · go_simp
          constructor
          · rfl
          · rfl
        have HB_4_2 := below_step HB_4 (below_alloc (Below.refl _ V_4) (.cells (ints (List.replicate n 0)) 3))
        have N4_4_2 := blk_alloc N4_4 (.cells (ints (List.replicate n 0)) 3)
        have L4_4_2 := blk_lt N4_4
        have N2_4_2 := blk_new V_4 (.cells (ints (List.replicate n 0)) 3)
        have G2_4_2 := HB_4.size
        have G4_4_2 := G4_4
        generalize V_4.alloc (.cells (ints (List.replicate n 0)) 3) = V_4_2 at *
        generalize V_4.heap.size = h2 at *
        refine hK.out _ _ trivial (fun hHeld => ?_)
        clear hK K
        refine norm_ (a' := ?_) ?_ ?_
        rotate_left
        · show Act.put _ (some 12) _ = _
          simp only [Act.put, List.setIfInBounds_toArray, List.set_cons_zero, List.set_cons_succ, i64_w, i32_w]
          rfl
        refine one_ (i := 6) (N := some 16) #[true, true, true, true, true, true, true, false, false, false] rfl rfl (by kernel_rfl) (by decide) (fun K hK => ?_)
        refine value_ (w1 := ?_) (v := ?_) (by rfl) rfl ?_ ?_
        rotate_left 2
        · go_simp
          constructor
          · rfl
          · rfl
        have HB_4_2_6 := below_step HB_4_2 (below_alloc (Below.refl _ V_4_2) (.cells (ints (List.replicate n 0)) 3))
        have N4_4_2_6 := blk_alloc N4_4_2 (.cells (ints (List.replicate n 0)) 3)
        have L4_4_2_6 := blk_lt N4_4_2
        have N2_4_2_6 := blk_alloc N2_4_2 (.cells (ints (List.replicate n 0)) 3)
        have L2_4_2_6 := blk_lt N2_4_2
        have N6_4_2_6 := blk_new V_4_2 (.cells (ints (List.replicate n 0)) 3)
        have G6_4_2_6 := HB_4_2.size
        have G4_4_2_6 := G4_4_2
        have G2_4_2_6 := G2_4_2
        generalize V_4_2.alloc (.cells (ints (List.replicate n 0)) 3) = V_4_2_6 at *
        generalize V_4_2.heap.size = h6 at *
        have NE_4_2_6 : h2 ≠ h6 := by omega
        refine hK.out _ _ trivial (fun hHeld => ?_)
        clear hK K
        refine norm_ (a' := ?_) ?_ ?_
        rotate_left
        · show Act.put _ (some 16) _ = _
          simp only [Act.put, List.setIfInBounds_toArray, List.set_cons_zero, List.set_cons_succ, i64_w, i32_w]
          rfl
        exact norm_ (by simp only [putAll, Act.put, List.setIfInBounds_toArray, List.set_cons_zero, List.set_cons_succ]) (hCont (h2, h4, h6) _ ⟨N2_4_2_6, N4_4_2_6, N6_4_2_6, NE_4_2_6, G2_4_2_6, G4_4_2_6, G6_4_2_6, HB_4_2_6⟩)
      · skip
        refine value_ (w1 := ?_) (v := ?_) (by rfl) rfl ?_ ?_
        rotate_left 2
        · go_simp
          constructor
          · rfl
          · rfl
        have HB_4_6 := below_step HB_4 (below_alloc (Below.refl _ V_4) (.cells (ints (List.replicate n 0)) 3))
        have N4_4_6 := blk_alloc N4_4 (.cells (ints (List.replicate n 0)) 3)
        have L4_4_6 := blk_lt N4_4
        have N6_4_6 := blk_new V_4 (.cells (ints (List.replicate n 0)) 3)
        have G6_4_6 := HB_4.size
        have G4_4_6 := G4_4
        generalize V_4.alloc (.cells (ints (List.replicate n 0)) 3) = V_4_6 at *
        generalize V_4.heap.size = h6 at *
        refine hK.out _ _ trivial (fun hHeld => ?_)
        clear hK K
        refine norm_ (a' := ?_) ?_ ?_
        rotate_left
        · show Act.put _ (some 16) _ = _
          simp only [Act.put, List.setIfInBounds_toArray, List.set_cons_zero, List.set_cons_succ, i64_w, i32_w]
          rfl
        refine one_ (i := 2) (N := some 12) #[true, true, true, true, true, true, true, false, false, false] rfl rfl (by kernel_rfl) (by decide) (fun K hK => ?_)
        refine value_ (w1 := ?_) (v := ?_) (by rfl) rfl ?_ ?_
        rotate_left 2
        · go_simp
          constructor
          · rfl
          · rfl
        have HB_4_6_2 := below_step HB_4_6 (below_alloc (Below.refl _ V_4_6) (.cells (ints (List.replicate n 0)) 3))
        have N4_4_6_2 := blk_alloc N4_4_6 (.cells (ints (List.replicate n 0)) 3)
        have L4_4_6_2 := blk_lt N4_4_6
        have N6_4_6_2 := blk_alloc N6_4_6 (.cells (ints (List.replicate n 0)) 3)
        have L6_4_6_2 := blk_lt N6_4_6
        have N2_4_6_2 := blk_new V_4_6 (.cells (ints (List.replicate n 0)) 3)
        have G2_4_6_2 := HB_4_6.size
        have G4_4_6_2 := G4_4_6
        have G6_4_6_2 := G6_4_6
        generalize V_4_6.alloc (.cells (ints (List.replicate n 0)) 3) = V_4_6_2 at *
        generalize V_4_6.heap.size = h2 at *
        have NE_4_6_2 : h2 ≠ h6 := by omega
        refine hK.out _ _ trivial (fun hHeld => ?_)
        clear hK K
        refine norm_ (a' := ?_) ?_ ?_
        rotate_left
        · show Act.put _ (some 12) _ = _
          simp only [Act.put, List.setIfInBounds_toArray, List.set_cons_zero, List.set_cons_succ, i64_w, i32_w]
          rfl
        exact norm_ (by simp only [putAll, Act.put, List.setIfInBounds_toArray, List.set_cons_zero, List.set_cons_succ]) (hCont (h2, h4, h6) _ ⟨N2_4_6_2, N4_4_6_2, N6_4_6_2, NE_4_6_2, G2_4_6_2, G4_4_6_2, G6_4_6_2, HB_4_6_2⟩)
    · skip
      refine value_ (w1 := ?_) (v := ?_) (by rfl) rfl ?_ ?_
      rotate_left 2
      · go_simp
        constructor
        · rfl
        · rfl
      have HB_6 := below_step HB (below_alloc (Below.refl _ V) (.cells (ints (List.replicate n 0)) 3))
      have N6_6 := blk_new V (.cells (ints (List.replicate n 0)) 3)
      have G6_6 := HB.size
      generalize V.alloc (.cells (ints (List.replicate n 0)) 3) = V_6 at *
      generalize V.heap.size = h6 at *
      refine hK.out _ _ trivial (fun hHeld => ?_)
      clear hK K
      refine norm_ (a' := ?_) ?_ ?_
      rotate_left
      · show Act.put _ (some 16) _ = _
        simp only [Act.put, List.setIfInBounds_toArray, List.set_cons_zero, List.set_cons_succ, i64_w, i32_w]
        rfl
      refine two_ (i := 2) (j := 4) (Ni := some 12) (Nj := some 14) #[true, true, true, true, false, true, true, false, false, false] #[true, true, false, true, true, true, true, false, false, false] rfl rfl rfl rfl (by kernel_rfl) (by decide) (by decide) (fun K hK => ?_) (fun K hK => ?_)
      · skip
        refine value_ (w1 := ?_) (v := ?_) (by rfl) rfl ?_ ?_
        rotate_left 2
        · go_simp
          constructor
          · rfl
          · rfl
        have HB_6_2 := below_step HB_6 (below_alloc (Below.refl _ V_6) (.cells (ints (List.replicate n 0)) 3))
        have N6_6_2 := blk_alloc N6_6 (.cells (ints (List.replicate n 0)) 3)
        have L6_6_2 := blk_lt N6_6
        have N2_6_2 := blk_new V_6 (.cells (ints (List.replicate n 0)) 3)
        have G2_6_2 := HB_6.size
        have G6_6_2 := G6_6
        generalize V_6.alloc (.cells (ints (List.replicate n 0)) 3) = V_6_2 at *
        generalize V_6.heap.size = h2 at *
        have NE_6_2 : h2 ≠ h6 := by omega
        refine hK.out _ _ trivial (fun hHeld => ?_)
        clear hK K
        refine norm_ (a' := ?_) ?_ ?_
        rotate_left
        · show Act.put _ (some 12) _ = _
          simp only [Act.put, List.setIfInBounds_toArray, List.set_cons_zero, List.set_cons_succ, i64_w, i32_w]
          rfl
        refine one_ (i := 4) (N := some 14) #[true, true, true, true, true, true, true, false, false, false] rfl rfl (by kernel_rfl) (by decide) (fun K hK => ?_)
        refine value_ (w1 := ?_) (v := ?_) (by rfl) rfl ?_ ?_
        rotate_left 2
        · go_simp
          constructor
          · rfl
          · rfl
        have HB_6_2_4 := below_step HB_6_2 (below_alloc (Below.refl _ V_6_2) (.cells (boolsA (List.replicate n false)) 4))
        have N6_6_2_4 := blk_alloc N6_6_2 (.cells (boolsA (List.replicate n false)) 4)
        have L6_6_2_4 := blk_lt N6_6_2
        have N2_6_2_4 := blk_alloc N2_6_2 (.cells (boolsA (List.replicate n false)) 4)
        have L2_6_2_4 := blk_lt N2_6_2
        have N4_6_2_4 := blk_new V_6_2 (.cells (boolsA (List.replicate n false)) 4)
        have G4_6_2_4 := HB_6_2.size
        have G6_6_2_4 := G6_6_2
        have G2_6_2_4 := G2_6_2
        generalize V_6_2.alloc (.cells (boolsA (List.replicate n false)) 4) = V_6_2_4 at *
        generalize V_6_2.heap.size = h4 at *
        have NE_6_2_4 := NE_6_2
        refine hK.out _ _ trivial (fun hHeld => ?_)
        clear hK K
        refine norm_ (a' := ?_) ?_ ?_
        rotate_left
        · show Act.put _ (some 14) _ = _
          simp only [Act.put, List.setIfInBounds_toArray, List.set_cons_zero, List.set_cons_succ, i64_w, i32_w]
          rfl
        exact norm_ (by simp only [putAll, Act.put, List.setIfInBounds_toArray, List.set_cons_zero, List.set_cons_succ]) (hCont (h2, h4, h6) _ ⟨N2_6_2_4, N4_6_2_4, N6_6_2_4, NE_6_2_4, G2_6_2_4, G4_6_2_4, G6_6_2_4, HB_6_2_4⟩)
      · skip
        refine value_ (w1 := ?_) (v := ?_) (by rfl) rfl ?_ ?_
        rotate_left 2
        · go_simp
          constructor
          · rfl
          · rfl
        have HB_6_4 := below_step HB_6 (below_alloc (Below.refl _ V_6) (.cells (boolsA (List.replicate n false)) 4))
        have N6_6_4 := blk_alloc N6_6 (.cells (boolsA (List.replicate n false)) 4)
        have L6_6_4 := blk_lt N6_6
        have N4_6_4 := blk_new V_6 (.cells (boolsA (List.replicate n false)) 4)
        have G4_6_4 := HB_6.size
        have G6_6_4 := G6_6
        generalize V_6.alloc (.cells (boolsA (List.replicate n false)) 4) = V_6_4 at *
        generalize V_6.heap.size = h4 at *
        refine hK.out _ _ trivial (fun hHeld => ?_)
        clear hK K
        refine norm_ (a' := ?_) ?_ ?_
        rotate_left
        · show Act.put _ (some 14) _ = _
          simp only [Act.put, List.setIfInBounds_toArray, List.set_cons_zero, List.set_cons_succ, i64_w, i32_w]
          rfl
        refine one_ (i := 2) (N := some 12) #[true, true, true, true, true, true, true, false, false, false] rfl rfl (by kernel_rfl) (by decide) (fun K hK => ?_)
        refine value_ (w1 := ?_) (v := ?_) (by rfl) rfl ?_ ?_
        rotate_left 2
        · go_simp
          constructor
          · rfl
          · rfl
        have HB_6_4_2 := below_step HB_6_4 (below_alloc (Below.refl _ V_6_4) (.cells (ints (List.replicate n 0)) 3))
        have N6_6_4_2 := blk_alloc N6_6_4 (.cells (ints (List.replicate n 0)) 3)
        have L6_6_4_2 := blk_lt N6_6_4
        have N4_6_4_2 := blk_alloc N4_6_4 (.cells (ints (List.replicate n 0)) 3)
        have L4_6_4_2 := blk_lt N4_6_4
        have N2_6_4_2 := blk_new V_6_4 (.cells (ints (List.replicate n 0)) 3)
        have G2_6_4_2 := HB_6_4.size
        have G6_6_4_2 := G6_6_4
        have G4_6_4_2 := G4_6_4
        generalize V_6_4.alloc (.cells (ints (List.replicate n 0)) 3) = V_6_4_2 at *
        generalize V_6_4.heap.size = h2 at *
        have NE_6_4_2 : h2 ≠ h6 := by omega
        refine hK.out _ _ trivial (fun hHeld => ?_)
        clear hK K
        refine norm_ (a' := ?_) ?_ ?_
        rotate_left
        · show Act.put _ (some 12) _ = _
          simp only [Act.put, List.setIfInBounds_toArray, List.set_cons_zero, List.set_cons_succ, i64_w, i32_w]
          rfl
        exact norm_ (by simp only [putAll, Act.put, List.setIfInBounds_toArray, List.set_cons_zero, List.set_cons_succ]) (hCont (h2, h4, h6) _ ⟨N2_6_4_2, N4_6_4_2, N6_6_4_2, NE_6_4_2, G2_6_4_2, G4_6_4_2, G6_6_4_2, HB_6_4_2⟩)
  rintro ⟨h2, h4, h6⟩ W3 ⟨N2, N4, N6, NE, G2, G4, G6, HB3⟩
  have hHeld : True := trivial
  refine norm_ (a' := ?_) ?_ ?_
  rotate_left
  · simp only [putAll, Act.put, List.setIfInBounds_toArray, List.set_cons_zero, List.set_cons_succ]
    rfl
  refine pure_ (i := 7) (N := some 17) (v := ?_) (a' := ?_) #[true, true, true, true, true, true, true, true, false, false] rfl rfl (by kernel_rfl) (fun _ _ _ h => h) (Or.inl ⟨by rfl, ?_⟩) ?_ ?_
  rotate_left
  · intro w'
    go_simp
    with_reducible rfl
  rotate_left
  · simp only [Act.put, List.setIfInBounds_toArray, List.set_cons_zero, List.set_cons_succ, i64_w, i32_w]
    rfl
  refine one_ (i := 8) (N := some 18) #[true, true, true, true, true, true, true, true, true, false] rfl rfl (by kernel_rfl) (by decide) (fun K hK => ?_)
  refine value_ (w1 := ?_) (v := ?_) (by rfl) rfl ?_ ?_
  rotate_left 2
  · go_simp
    constructor
    · rfl
    · rfl
  refine hK.out _ _ (trivial) (fun hHeld => ?_)
  clear hK K
  refine norm_ (a' := ?_) ?_ ?_
  rotate_left
  · show Act.put _ (some 18) _ = _
    simp only [Act.put, List.setIfInBounds_toArray, List.set_cons_zero, List.set_cons_succ, i64_w, i32_w]
    rfl
  refine pure_ (i := 9) (N := some 6) (v := ?_) (a' := ?_) #[true, true, true, true, true, true, true, true, true, true] rfl rfl (by kernel_rfl) (fun _ _ _ h => h) (Or.inl ⟨by rfl, ?_⟩) ?_ ?_
  rotate_left
  · intro w'
    go_simp
    with_reducible rfl
  rotate_left
  · simp only [Act.put, List.setIfInBounds_toArray, List.set_cons_zero, List.set_cons_succ, i64_w, i32_w]
    rfl
  refine done_ (by kernel_rfl) ?_
  have RV : Roads w (W3.alloc (.cells #[.slice A l.length c, .slice (some ⟨h2, 0, none⟩) n n, .slice (some ⟨h4, 0, none⟩) n n, .slice (some ⟨h6, 0, none⟩) n n] 121)) W3.heap.size h2 h4 h6 n A l.length c (List.replicate n 0) (List.replicate n false) (List.replicate n 0) :=
    ⟨blk_new W3 (.cells #[.slice A l.length c, .slice (some ⟨h2, 0, none⟩) n n, .slice (some ⟨h4, 0, none⟩) n n, .slice (some ⟨h6, 0, none⟩) n n] 121), blk_alloc N2 _, blk_alloc N4 _, blk_alloc N6 _, by simp, by simp, by simp, NE, HB3.size, G2, G4, G6, below_step HB3 (below_alloc (Below.refl _ W3) _)⟩
  clear N2 N4 N6 NE G2 G4 G6 HB3 HB hHeld
  clear hHeld
  clear hHeld
  generalize W3.alloc (.cells #[.slice A l.length c, .slice (some ⟨h2, 0, none⟩) n n, .slice (some ⟨h4, 0, none⟩) n n, .slice (some ⟨h6, 0, none⟩) n n] 121) = V4 at RV ⊢
  generalize W3.heap.size = g at RV ⊢
  have RV := Aside0.mk RV
  have f3 := RV.out.f3
  clear k28 k119
  go_wp2_with fail
  clear f3
  go_loopw [24] (fun v wr => ∃ j : Nat, v = .int .i64 j ∧ j ≤ n ∧ Aside0 (Roads w wr g h2 h4 h6 n A l.length c (List.replicate n 0) (List.replicate n false) (List.replicate j (-1) ++ List.replicate (n - j) 0))) (fun v _ => n - (intOf v).toNat)
  case atStart => exact ⟨0, rfl, by omega, ⟨by simpa using RV.out⟩⟩
  case round =>
    clear RV
    obtain ⟨j, rfl, hj, HR⟩ := hrel
    have f3 := HR.out.f3
    by_cases hlt : j < n
    · have hltb : decide ((j : Int) < (n : Int)) = true := by simpa using hlt
      have ca := HR.out.last_at (j : Int) (by omega) (by omega)
      have fz := blk_frozen HR.out.lasts j
      simp only [Int.toNat_natCast] at ca
      have R2 := Aside0.mk (HR.out.set_last j (-1))
      rw [set_step _ _ _ _ hlt] at R2
      go_wp2_with fail
      go_roundw
      case rel => exact ⟨j + 1, by go_num, by omega, R2⟩
      case measure => simp [intOf]; omega
    · have hltb : decide ((j : Int) < (n : Int)) = false := by simpa using hlt
      have hjn : j = n := by omega
      have RL : Aside0 (Roads w wr g h2 h4 h6 n A l.length c (List.replicate n 0) (List.replicate n false) (List.replicate n (-1))) := ⟨by have := HR.out; rw [hjn, Nat.sub_self, List.replicate_zero, List.append_nil] at this; exact this⟩
      clear HR hjn
      have f2 := RL.out.f2
      by_cases hneg : e < 0
      · have hnb : decide (e < 0) = true := by simpa using hneg
        go_wp2_with fail
        clear f2 f3
        obtain ⟨wo, hwo⟩ : ∃ wo : World, wo = wr := ⟨_, rfl⟩
        subst hwo
        go_loopw [41] (fun v wr => ∃ j : Nat, v = .int .i64 j ∧ j ≤ n ∧ Aside0 (Roads w wr g h2 h4 h6 n A l.length c (List.replicate n 0) (List.replicate j true ++ List.replicate (n - j) false) (List.replicate n (-1)))) (fun v _ => n - (intOf v).toNat)
        case atStart => exact ⟨0, rfl, by omega, ⟨by simpa using RL.out⟩⟩
        case round =>
          clear RL
          obtain ⟨j, rfl, hj, HR⟩ := hrel
          have f2 := HR.out.f2
          by_cases hlt : j < n
          · have hltb : decide ((j : Int) < (n : Int)) = true := by simpa using hlt
            have ca := HR.out.has_at (j : Int) (by omega) (by omega)
            have fz := blk_frozen HR.out.hass j
            simp only [Int.toNat_natCast] at ca
            have R2 := Aside0.mk (HR.out.set_has j true)
            rw [set_step _ _ _ _ hlt] at R2
            go_wp2_with fail
            go_roundw
            case rel => exact ⟨j + 1, by go_num, by omega, R2⟩
            case measure => simp [intOf]; omega
          · have hltb : decide ((j : Int) < (n : Int)) = false := by simpa using hlt
            have hjn : j = n := by omega
            have RK : Aside0 (Roads w wr g h2 h4 h6 n A l.length c (List.replicate n 0) (initHas n e) (List.replicate n (-1))) := ⟨by have := HR.out; rw [hjn, Nat.sub_self, List.replicate_zero, List.append_nil] at this; unfold initHas; rw [if_pos hneg]; exact this⟩
            clear HR hjn f2
            go_wp2_with fail
            go_loopw [6, 7, 58] (fun v6 v7 v wr => ∃ (k : Nat) (st : RS) (cc : Int), v6 = .pointer (some ⟨g, 0, none⟩) ∧ v = .int .i64 k ∧ k ≤ n ∧ v7 = .int .i64 cc ∧ Aside0 (fromF l n e = fromLoop l (n - k) st cc) ∧ Aside0 (Roads w wr g h2 h4 h6 n A l.length c st.sum st.has st.last)) (fun _ _ v _ => n - (intOf v).toNat)
            case atStart => exact ⟨0, ⟨List.replicate n 0, initHas n e, List.replicate n (-1), -1⟩, 0, rfl, rfl, by omega, rfl, ⟨rfl⟩, RK⟩
            case round =>
              clear RK
              obtain ⟨k, st, cc, rfl, rfl, hk, rfl, HF, HR⟩ := hrel
              by_cases hkn : k < n
              · have hkb : decide ((k : Int) < (n : Int)) = true := by simpa using hkn
                have hsub : n - k = (n - (k + 1)) + 1 := by omega
                have HF2 := Aside0.mk (show fromLoop l (n - k) st cc = _ from by rw [hsub, fromLoop])
                clear hsub
                go_wp2_with fail
                refine (relax_any g h2 h4 h6 n A c l st.sum st.has st.last w wr HR.out.bel HC.out hl hn HV.out HR.out).mono ?_
                rintro e9 w9 ⟨rfl, hR9⟩
                have HR9 := Aside0.mk hR9
                clear hR9
                generalize rloop l ⟨st.sum, st.has, st.last, -1⟩ l.length = st' at HR9 HF2 ⊢
                by_cases ho : st'.out < 0
                · have hob : decide (st'.out < 0) = true := by simpa using ho
                  rw [if_pos ho] at HF2
                  have HV2 := Aside0.mk (HF.out.trans HF2.out)
                  clear ho
                  go_wp2_with fail
                  go_ret2
                  refine ⟨g, h2, h4, h6, ?_, ?_⟩
                  · rw [HV2.out]
                    rfl
                  · rw [HV2.out]
                    exact HR9.out
                · have hob : decide (st'.out < 0) = false := by simpa using ho
                  rw [if_neg ho] at HF2
                  clear ho
                  go_wp2_with fail
                  go_roundw
                  case rel => exact ⟨k + 1, st', st'.out, rfl, by go_num, by omega, rfl, ⟨by rw [HF.out, HF2.out]⟩, HR9⟩
                  case measure => simp [intOf]; omega
              · have hkb : decide ((k : Int) < (n : Int)) = false := by simpa using hkn
                have hz : n - k = 0 := by omega
                have HV2 : Aside0 (fromF l n e = (st, cc)) := ⟨by rw [HF.out, hz]; rfl⟩
                clear hz
                go_wp2_with fail
                go_ret2
                refine ⟨g, h2, h4, h6, ?_, ?_⟩
                · rw [HV2.out]
                  rfl
                · rw [HV2.out]
                  exact HR.out
      · have hnb : decide (e < 0) = false := by simpa using hneg
        have hge : 0 ≤ e := by omega
        have ca := RL.out.has_at e hge he
        have fz := blk_frozen RL.out.hass e.toNat
        have RK : Aside0 (Roads w (wr.setCell ⟨h4, e.toNat, none⟩ (.bool true)) g h2 h4 h6 n A l.length c (List.replicate n 0) (initHas n e) (List.replicate n (-1))) := ⟨by unfold initHas; rw [if_neg hneg]; exact RL.out.set_has e.toNat true⟩
        clear RL f3
        go_wp2_with fail
        generalize wr.setCell ⟨h4, e.toNat, none⟩ (.bool true) = wk at RK ⊢
        go_loopw [6, 7, 58] (fun v6 v7 v wr => ∃ (k : Nat) (st : RS) (cc : Int), v6 = .pointer (some ⟨g, 0, none⟩) ∧ v = .int .i64 k ∧ k ≤ n ∧ v7 = .int .i64 cc ∧ Aside0 (fromF l n e = fromLoop l (n - k) st cc) ∧ Aside0 (Roads w wr g h2 h4 h6 n A l.length c st.sum st.has st.last)) (fun _ _ v _ => n - (intOf v).toNat)
        case atStart => exact ⟨0, ⟨List.replicate n 0, initHas n e, List.replicate n (-1), -1⟩, 0, rfl, rfl, by omega, rfl, ⟨rfl⟩, RK⟩
        case round =>
          clear RK
          obtain ⟨k, st, cc, rfl, rfl, hk, rfl, HF, HR⟩ := hrel
          by_cases hkn : k < n
          · have hkb : decide ((k : Int) < (n : Int)) = true := by simpa using hkn
            have hsub : n - k = (n - (k + 1)) + 1 := by omega
            have HF2 := Aside0.mk (show fromLoop l (n - k) st cc = _ from by rw [hsub, fromLoop])
            clear hsub
            go_wp2_with fail
            refine (relax_any g h2 h4 h6 n A c l st.sum st.has st.last w wr HR.out.bel HC.out hl hn HV.out HR.out).mono ?_
            rintro e9 w9 ⟨rfl, hR9⟩
            have HR9 := Aside0.mk hR9
            clear hR9
            generalize rloop l ⟨st.sum, st.has, st.last, -1⟩ l.length = st' at HR9 HF2 ⊢
            by_cases ho : st'.out < 0
            · have hob : decide (st'.out < 0) = true := by simpa using ho
              rw [if_pos ho] at HF2
              have HV2 := Aside0.mk (HF.out.trans HF2.out)
              clear ho
              go_wp2_with fail
              go_ret2
              refine ⟨g, h2, h4, h6, ?_, ?_⟩
              · rw [HV2.out]
                rfl
              · rw [HV2.out]
                exact HR9.out
            · have hob : decide (st'.out < 0) = false := by simpa using ho
              rw [if_neg ho] at HF2
              clear ho
              go_wp2_with fail
              go_roundw
              case rel => exact ⟨k + 1, st', st'.out, rfl, by go_num, by omega, rfl, ⟨by rw [HF.out, HF2.out]⟩, HR9⟩
              case measure => simp [intOf]; omega
          · have hkb : decide ((k : Int) < (n : Int)) = false := by simpa using hkn
            have hz : n - k = 0 := by omega
            have HV2 : Aside0 (fromF l n e = (st, cc)) := ⟨by rw [HF.out, hz]; rfl⟩
            clear hz
            go_wp2_with fail
            go_ret2
            refine ⟨g, h2, h4, h6, ?_, ?_⟩
            · rw [HV2.out]
              rfl
            · rw [HV2.out]
              exact HR.out
end Go.Proofs.Ytlfopemghafboaa.D
