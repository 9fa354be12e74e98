/- The reference's table of shortest chains in memory: rows of whole numbers, no two of which share a block, and what its loops do to it. No condition beyond each theorem's own hypotheses. -/
import Derived.Test.YtlfopemghafboaaDfw
import Derived.Test.YtlfopemghafboaaDh11
import Derived.Test.YtlfopemghafboaaWApart
namespace Go.Proofs.Ytlfopemghafboaa.D
open Go.RowKit Go.Proofs.YtlfopemghafboaaW.PrintWords Go.Proofs.YtlfopemghafboaaW.PrintLast Go.Proofs.YtlfopemghafboaaW.PrintMore
set_option linter.unusedVariables false
set_option linter.unusedSimpArgs false
def rowL (m : List (List Int)) (i : Int) : List Int := m.getD i.toNat []
def mv (m : List (List Int)) (i j : Int) : Int := rd (rowL m i) j
/-- The rows and their row lie in memory of the call's own. -/
structure WMat (w0 W : World) (n g c : Nat) (m : List (List Int)) : Prop where
  s : Kd.S (Kd.slice 3 (Kd.int .i64)) 28 W w0.heap.size (fun _ => True) (.slice (some ⟨g, 0, none⟩) n c) m
  len : m.length = n
  row : ∀ i : Nat, i < n → (rowL m (i : Int)).length = n
  bel : Below w0.heap.size w0 W
theorem WMat.below {w0 W W1 : World} {n g c : Nat} {m : List (List Int)} (h : WMat w0 W n g c m) (hb : Below W.heap.size W W1) : WMat w0 W1 n g c m := ⟨Kd.S_below h.s hb, h.len, h.row, below_step h.bel hb⟩
theorem rowL_set (m : List (List Int)) (a i : Nat) (r : List Int) (ha : a < m.length) : rowL (m.set a r) (i : Int) = if i = a then r else rowL m (i : Int) := by
  unfold rowL
  rw [Int.toNat_natCast, List.getD_eq_getElem?_getD, List.getElem?_set, List.getD_eq_getElem?_getD]
  by_cases h : i = a
  · subst h; rw [if_pos rfl, if_pos rfl]; simp [ha]
  · rw [if_neg (fun e => h e.symm), if_neg h]
theorem mv_put {m : List (List Int)} {n : Nat} (hl : m.length = n) (hr : ∀ i : Nat, i < n → (rowL m (i : Int)).length = n) (a b : Nat) (ha : a < n) (hb : b < n) (x : Int) (i j : Nat) : mv (m.set a ((rowL m (a : Int)).set b x)) i j = putW (mv m) a b x i j := by
  unfold mv putW
  rw [rowL_set m a i _ (by omega)]
  by_cases h : i = a
  · subst h
    rw [if_pos rfl]
    have e := rd_set_ (rowL m (i : Int)) (b : Int) (j : Int) x (by omega) (by have := hr i ha; omega) (by omega)
    rw [Int.toNat_natCast] at e
    rw [e]
    by_cases h2 : j = b
    · subst h2; rw [if_pos rfl, if_pos ⟨rfl, rfl⟩]
    · rw [if_neg (by omega), if_neg (by omega)]
  · rw [if_neg h, if_neg (by omega)]
/-- One row: where it lies, what it holds, and what a store into it leaves. -/
theorem WMat.at {w0 W : World} {n g c : Nat} {m : List (List Int)} (h : WMat w0 W n g c m) (i : Nat) (hi : i < n) :
    ∃ b d, W.cell? ⟨g, i, none⟩ = some (.slice (some ⟨b, 0, none⟩) n d) ∧ (∃ cells, W.heap[b]? = some (.cells cells 3 (0, 0))) ∧ ∀ j : Nat, j < n → W.cell? ⟨b, j, none⟩ = some (.int .i64 (mv m i j)) ∧ W.frozen? ⟨b, j, none⟩ = false ∧ ∀ x : Int, WMat w0 (W.setCell ⟨b, j, none⟩ (.int .i64 x)) n g c (m.set i ((rowL m (i : Int)).set j x)) := by
  obtain ⟨oki, ce, hcl, hM, hcc, hok, hbk⟩ := Kd.S_borrow h.s [] (i : Int) (by omega) (by omega)
  obtain ⟨ve, rfl, ge⟩ := hM
  have hv := hcc 0 ve rfl
  rw [Int.toNat_natCast] at hv ge hbk
  rw [Nat.add_zero, show (Kd.slice 3 (Kd.int .i64)).sz = 1 from rfl, Nat.mul_one, add_plain] at hv
  have hrl : (m.getD i []).length = n := by have := h.row i hi; unfold rowL at this; rwa [Int.toNat_natCast] at this
  obtain ⟨b, d, e, hb0, hb1, hbt⟩ := Kd.R_form ge (by omega)
  subst e
  rw [hrl] at hv ge hbk
  refine ⟨b, d, hv, hbt, fun j hj => ?_⟩
  have hc := Kd.R_celln 0 ge (j : Int) (by omega) (by omega)
  rw [Int.toNat_natCast] at hc
  refine ⟨hc.1, hc.2, fun x => ?_⟩
  have hP := Kd.R_putg ge (j : Int) x
  rw [Int.toNat_natCast] at hP
  have hS := hbk hP.2 (fun k hk => by injection hk with hk; subst hk; exact ge.1 _ rfl) (Kd.M_row (d := Kd.int .i64) (e := 3) hP.1)
  have e : rowL m (i : Int) = m.getD i [] := by unfold rowL; rw [Int.toNat_natCast]
  refine ⟨by rw [e]; exact hS, by rw [List.length_set]; exact h.len, fun k hk => ?_, below_set h.bel (by have := h.bel.size; omega)⟩
  rw [rowL_set m i k _ (by rw [h.len]; exact hi)]
  split
  · rw [List.length_set]; exact h.row i hi
  · exact h.row k hk
/-- What a step of the table reads, and what its store leaves. -/
theorem WMat.three {w0 W : World} {n g c : Nat} {m : List (List Int)} (h : WMat w0 W n g c m) (i k j : Nat) (hi : i < n) (hk : k < n) (hj : j < n) :
    ∃ bi di bk dk, W.cell? ⟨g, i, none⟩ = some (.slice (some ⟨bi, 0, none⟩) n di) ∧ W.cell? ⟨g, k, none⟩ = some (.slice (some ⟨bk, 0, none⟩) n dk) ∧ W.cell? ⟨bi, k, none⟩ = some (.int .i64 (mv m i k)) ∧ W.cell? ⟨bk, j, none⟩ = some (.int .i64 (mv m k j)) ∧ W.cell? ⟨bi, j, none⟩ = some (.int .i64 (mv m i j)) ∧ W.frozen? ⟨bi, j, none⟩ = false ∧ ∀ x : Int, WMat w0 (W.setCell ⟨bi, j, none⟩ (.int .i64 x)) n g c (m.set i ((rowL m (i : Int)).set j x)) := by
  obtain ⟨bi, di, h1, _, h2⟩ := h.at i hi
  obtain ⟨bk, dk, h3, _, h4⟩ := h.at k hk
  exact ⟨bi, di, bk, dk, h1, h3, (h2 k hk).1, (h4 j hj).1, (h2 j hj).1, (h2 j hj).2.1, (h2 j hj).2.2⟩
/-- The rows as they are laid. -/
def row0 (i n : Nat) : List Int := (List.range n).map (fun k => if i = k then 0 else noW)
def rows0 (n k : Nat) : List (List Int) := (List.range k).map (fun i => row0 i n)
theorem row0_succ (i k : Nat) : row0 i (k + 1) = row0 i k ++ [if i = k then 0 else noW] := by unfold row0; rw [List.range_succ, List.map_append]; rfl
theorem rows0_succ (n k : Nat) : rows0 n (k + 1) = rows0 n k ++ [row0 k n] := by unfold rows0; rw [List.range_succ, List.map_append]; rfl
theorem row0_len (i n : Nat) : (row0 i n).length = n := by unfold row0; simp
theorem rows0_len (n k : Nat) : (rows0 n k).length = k := by unfold rows0; simp
theorem rowL_rows0 (n i : Nat) (hi : i < n) : rowL (rows0 n n) (i : Int) = row0 i n := by
  unfold rowL rows0
  rw [Int.toNat_natCast, List.getD_eq_getElem?_getD, List.getElem?_map, List.getElem?_range hi]
  rfl
theorem mv_rows0 (n i j : Nat) (hi : i < n) (hj : j < n) : mv (rows0 n n) (i : Int) (j : Int) = if i = j then 0 else noW := by
  unfold mv
  rw [rowL_rows0 n i hi]
  unfold row0 rd
  rw [Int.toNat_natCast, List.getD_eq_getElem?_getD, List.getElem?_map, List.getElem?_range hj]
  rfl
theorem wmat_start {w0 W : World} {n : Nat} {v : Value} (hn : 1 ≤ n) (hS : Kd.S (Kd.slice 3 (Kd.int .i64)) 28 W w0.heap.size (fun _ => True) v (rows0 n n)) (hB : Below w0.heap.size w0 W) : ∃ g c, v = .slice (some ⟨g, 0, none⟩) n c ∧ WMat w0 W n g c (rows0 n n) := by
  obtain ⟨g, c, e, _⟩ := Kd.S_form hS (by rw [rows0_len]; omega)
  rw [rows0_len] at e
  exact ⟨g, c, e, ⟨by rw [← e]; exact hS, rows0_len n n, fun i hi => by rw [rowL_rows0 n i hi]; exact row0_len i n, hB⟩⟩
theorem info28_ : (Try.prog.info? 28).map (fun i => (i.zero, i.size, i.bytes)) = some (some (.slice none 0 0), 1, 24) := by kernel_rfl
/-- What is laid, where a row is under way. -/
structure WLay (w0 W : World) (n i k : Nat) (v5 v7 : Value) : Prop where
  s : Kd.S (Kd.slice 3 (Kd.int .i64)) 28 W w0.heap.size (fun k => True ∧ some k ≠ v7.ownBlock) v5 (rows0 n i)
  r : Kd.R (Kd.int .i64) 3 W w0.heap.size (fun _ => True) v7 (row0 i k)
  bel : Below w0.heap.size w0 W
section
variable {ops : Array Oper} {rest : List Oper} {o : Oper} {a : Act} {Q : Exit → Act → World → Prop}
theorem wlay_append {w0 W : World} {n i k : Nat} {v5 v7 : Value} (hgd : o.guard = none) (s x : Operand) (ho : o.op = .call { callee := .builtin .append, args := #[s, x], argTypes := #[28, 28] }) (p : Int) (hp : p = if i = k then 0 else noW) (hs : a.eval s = v7) (hx : a.eval x = .slice (some ⟨W.heap.size, 0, none⟩) 1 1)
    (hT : WLay w0 W n i k v5 v7) (hl : k < 1000000) (h : ∀ v1 w1, WLay w0 w1 n i (k + 1) v5 v1 → wpList Try.prog ops Q rest (a.put o.dst v1) w1) : wpList Try.prog ops Q (o :: rest) a (W.alloc (.cells #[.int .i64 p] 3)) :=
  Kd.R_append (Kd.int .i64) (w0 := w0) w0.heap.size hgd s x 28 3 (.int .i64 0) 8 ho Try.underlying28 info3 rfl (by decide) (by omega) v7 (row0 i k) p [.int .i64 p] (fun _ => True) (fun _ => False) hs hx rfl (fun _ hk => hk.elim) (fun _ _ => trivial) hT.r hT.bel hT.bel.size (by rw [row0_len]; omega)
    (fun v1 w1 h1 h2 h3 h4 => h v1 w1 ⟨Kd.S_after hT.s h3 h4, by rw [row0_succ, ← hp]; exact h1, h2⟩)
theorem wlay_append_row {w0 W : World} {n i : Nat} {v5 : Value} {B : Option Addr} {d : Nat} (hgd : o.guard = none) (s x : Operand) (ho : o.op = .call { callee := .builtin .append, args := #[s, x], argTypes := #[74, 74] }) (hs : a.eval s = v5) (hx : a.eval x = .slice (some ⟨W.heap.size, 0, none⟩) 1 1)
    (hT : WLay w0 W n i n v5 (.slice B n d)) (hl : i < 1000000) (h : ∀ v1 w1, Kd.S (Kd.slice 3 (Kd.int .i64)) 28 w1 w0.heap.size (fun _ => True) v1 (rows0 n (i + 1)) → Below w0.heap.size w0 w1 → wpList Try.prog ops Q rest (a.put o.dst v1) w1) : wpList Try.prog ops Q (o :: rest) a (W.alloc (.cells #[.slice B n d] 28)) := by
  have hR : Kd.R (Kd.int .i64) 3 W w0.heap.size (fun k => True ∧ some k ≠ v5.ownBlock) (.slice B n d) (row0 i n) := Kd.R_apart' hT.r (Kd.S_typed hT.s) (by decide)
  refine Kd.S_append (Kd.slice 3 (Kd.int .i64)) (w0 := w0) w0.heap.size hgd s x 74 28 (.slice none 0 0) 24 ho Try.underlying74 info28_ rfl (by decide) (by omega) v5 (rows0 n i) (row0 i n) [.slice B n d] (fun _ => True) (fun k => some k = (Value.slice B n d).ownBlock) hs hx ?_ (fun k hk => ⟨trivial, (hR.1 k hk.symm).2⟩) (fun _ _ => trivial) ?_ hT.bel hT.bel.size (by rw [rows0_len]; omega) (fun v1 w1 h1 h2 h3 h4 => h v1 w1 (by rw [rows0_succ]; exact h1) h2)
  · exact Kd.M_row (Kd.R_tight rfl hR)
  · exact Kd.S_mono hT.s (fun k hk => ⟨trivial, fun e => hk.2 e⟩)
end
theorem wlay_start {w0 W : World} {n i : Nat} {v5 : Value} (hS : Kd.S (Kd.slice 3 (Kd.int .i64)) 28 W w0.heap.size (fun _ => True) v5 (rows0 n i)) (hB : Below w0.heap.size w0 W) : WLay w0 W n i 0 v5 (.slice none 0 0) := ⟨Kd.S_apart_nil hS, Kd.R_nil _ _ _ _ _, hB⟩
/-! ### a round of the table, number by number -/
/-- The rows ahead of i, and the numbers ahead of j in row i, have been looked at. -/
def InW (D : Int → Int → Int) (n k i j : Nat) (M : Int → Int → Int) : Prop := ∀ a b : Nat, a < n → b < n → M a b = if a < i ∨ (a = i ∧ b < j) then relW k D a b else D a b
section
variable {l : List S27} {n k i j : Nat} {D M : Int → Int → Int}
theorem relW_row (hd : D k k = 0) (j : Int) : relW k D k j = D k j := by
  rcases relW_cases k D k j with e | ⟨_, _, h3, e⟩
  · exact e
  · omega
theorem relW_col (hd : D k k = 0) (i : Int) : relW k D i k = D i k := by
  rcases relW_cases k D i k with e | ⟨_, _, h3, e⟩
  · exact e
  · omega
theorem InW.vals (h : InW D n k i j M) (hd : D k k = 0) (hk : k < n) (hi : i < n) (hj : j < n) : M i k = D i k ∧ M k j = D k j ∧ M i j = D i j := by
  refine ⟨?_, ?_, ?_⟩
  · rw [h i k hi hk]; split
    · exact relW_col hd _
    · rfl
  · rw [h k j hk hj]; split
    · exact relW_row hd _
    · rfl
  · rw [h i j hi hj, if_neg (by omega)]
theorem InW.head (h : InW D n k i 0 M) (hd : D k k = 0) (hk : k < n) (hi : i < n) : M i k = D i k := by
  rw [h i k hi hk]; split
  · exact relW_col hd _
  · rfl
theorem InW.skip (h : InW D n k i 0 M) (hx : D i k = noW) : InW D n k (i + 1) 0 M := by
  intro a b ha hb
  rw [h a b ha hb]
  by_cases e : a = i
  · subst e
    rw [if_neg (by omega), if_pos (by omega)]
    unfold relW; rw [if_pos hx]
  · by_cases c : a < i
    · rw [if_pos (by omega), if_pos (by omega)]
    · rw [if_neg (by omega), if_neg (by omega)]
theorem InW.keep (h : InW D n k i j M) (hx : relW k D i j = D i j) : InW D n k i (j + 1) M := by
  intro a b ha hb
  rw [h a b ha hb]
  by_cases e : a = i ∧ b = j
  · obtain ⟨rfl, rfl⟩ := e
    rw [if_neg (by omega), if_pos (by omega), hx]
  · by_cases c : a < i ∨ (a = i ∧ b < j)
    · rw [if_pos c, if_pos (by omega)]
    · rw [if_neg c, if_neg (by omega)]
theorem InW.put (h : InW D n k i j M) {M' : Int → Int → Int} (hM : ∀ a b : Nat, M' a b = putW M i j (relW k D i j) a b) : InW D n k i (j + 1) M' := by
  intro a b ha hb
  rw [hM]
  unfold putW
  by_cases e : a = i ∧ b = j
  · obtain ⟨rfl, rfl⟩ := e
    rw [if_pos (by omega), if_pos (by omega)]
  · rw [if_neg (by omega), h a b ha hb]
    by_cases c : a < i ∨ (a = i ∧ b < j)
    · rw [if_pos c, if_pos (by omega)]
    · rw [if_neg c, if_neg (by omega)]
theorem InW.next (h : InW D n k i j M) (hj : n ≤ j) : InW D n k (i + 1) 0 M := by
  intro a b ha hb
  rw [h a b ha hb]
  by_cases c : a < i + 1
  · rw [if_pos (by omega), if_pos (by omega)]
  · rw [if_neg (by omega), if_neg (by omega)]
theorem InW.start (D : Int → Int → Int) (n k : Nat) : InW D n k 0 0 D := fun a b _ _ => by rw [if_neg (by omega)]
theorem InW.done (h : InW D n k i 0 M) (hi : n ≤ i) (a b : Int) (ha : 0 ≤ a ∧ a < n) (hb : 0 ≤ b ∧ b < n) : M a b = relW k D a b := by
  obtain ⟨x, rfl⟩ : ∃ x : Nat, a = x := ⟨a.toNat, by omega⟩
  obtain ⟨y, rfl⟩ : ∃ y : Nat, b = y := ⟨b.toNat, by omega⟩
  rw [h x y (by omega) (by omega), if_pos (by omega)]
end
/-- A circle with a negative sum. -/
def NegC (l : List S27) (n : Nat) : Prop := ∃ (a : Int) (ps : List Int), (0 ≤ a ∧ a < n) ∧ FC l a a ps ∧ wsum l ps < 0
theorem fw_round {l : List S27} {n k : Nat} {D M : Int → Int → Int} (h : FW l n k D) (hI : ∀ b ∈ l, InB n b) (hk : k < n) (hn : n ≤ 24) (hB : ∀ i : Nat, i < l.length → -24000000000000 ≤ (rd_T27 l i).f2 ∧ (rd_T27 l i).f2 ≤ 24000000000000) (hM : InW D n k n 0 M) :
    (∀ i : Nat, i < n → M i i < 0 → NegC l n) ∧ ((∀ i : Nat, i < n → 0 ≤ M i i) → FW l n ((k + 1 : Nat) : Int) M) := by
  obtain ⟨s1, s2⟩ := h.step hI hk hn hB
  have hd := fun a b ha hb => hM.done (Nat.le_refl _) a b ha hb
  constructor
  · intro i hi hneg
    rw [hd i i (by omega) (by omega)] at hneg
    obtain ⟨ps, p1, p2⟩ := s1 i i (by omega) (by omega) (by have : noW = 4000000000000000 := rfl; omega)
    exact ⟨i, ps, by omega, FM_FC _ _ _ p1, by omega⟩
  · intro hpos
    refine FW.congr (s2 fun i h0 h1 => ?_) hI (by omega) (fun i j hi hj => hd i j hi hj)
    obtain ⟨x, rfl⟩ : ∃ x : Nat, i = x := ⟨i.toNat, by omega⟩
    rw [← hd x x (by omega) (by omega)]
    exact hpos x (by omega)
end Go.Proofs.Ytlfopemghafboaa.D
