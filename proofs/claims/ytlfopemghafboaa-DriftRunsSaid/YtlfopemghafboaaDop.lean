/- What an argument that reads as data holds in memory, read as the printed contracts read it: rows of whole numbers and of structs of whole numbers, structs by value. -/
import Derived.Test.YtlfopemghafboaaDx0
import Derived.Deep.Slices
import Derived.Lib.SmallJoins
import Derived.ChangeArms
import Derived.ProofKit
namespace Go.Proofs.Ytlfopemghafboaa.D
open Go.RowKit Go.Proofs.YtlfopemghafboaaW.PrintWords Go.Proofs.YtlfopemghafboaaW.PrintLast Go.Proofs.YtlfopemghafboaaW.PrintMore
open Go.ChangeShapes Go.WideShapes Go.Deep
set_option linter.unusedVariables false
section
variable {H : Type} {enc : TypeId × Value → H} {P : Program} {w : World} {base : Nat} {spare : Nat → Bool} {held : Bool}
/-- A slice whose elements read as d's. -/
theorem open_row {α : Type} [Inhabited α] {d : Kd α} {t e : TypeId} {fuel : Nat} {v : Value} {x : DataW H × List MemPlace} (ht : P.underlying t = some (.slice e)) (hd : P.cellsOf e = d.sz)
    (hmk : ∀ n cs y, DataW.trod enc P w base spare held n e cs = some y → ∃ p, d.K w p cs) (h : DataW.trod enc P w base spare held fuel t [v] = some x) :
    ∃ A c xs, v = .slice A (List.length xs) c ∧ xs.length ≤ c ∧ d.C w A xs.length xs := by
  rcases open_slice ht h with ⟨hcs, _⟩ | ⟨a, len, cap, m, n, D, Pl, hcs, hb, hl, hm, hmm, _, hx⟩
  · simp only [List.cons.injEq, and_true] at hcs
    subst hcs
    exact ⟨none, 0, [], rfl, by simp, ⟨rfl, by simp, fun h => absurd h (by simp)⟩⟩
  · simp only [List.cons.injEq, and_true] at hcs
    subst hcs
    have hlm : len ≤ m := by rw [hmm]; split <;> omega
    have each : ∀ i, i < len → ∃ p : α, ∃ cs, cs.length = d.sz ∧ d.K w p cs ∧ ∀ k u, cs[k]? = some u → w.cell? (a.add (i * d.sz + k)) = some u := by
      intro i hi
      obtain ⟨cs, h1, h2⟩ := hx i (by omega)
      obtain ⟨p, hp⟩ := hmk _ _ _ h2
      obtain ⟨_, hlen, hcell⟩ := World.cells?_some h1
      rw [hd] at hlen hcell
      refine ⟨p, cs, hlen, hp, fun k u hu => ?_⟩
      have hk : k < d.sz := by rw [← hlen]; exact (List.getElem?_eq_some_iff.1 hu).1
      have := hcell k hk
      rw [Go.Deep.add_add] at this
      rw [this, hu]
    obtain ⟨f, hf⟩ := choose_lt each
    refine ⟨some a, cap, (List.range len).map f, by simp, by simpa using hl, by simp, ?_, fun _ => ⟨a, rfl, fun j p hp => ?_⟩⟩
    · simp only [List.length_map, List.length_range]
      have : maxLen ≤ 9223372036854775807 := by decide
      omega
    · have hj : j < len := by have := (List.getElem?_eq_some_iff.1 hp).1; simpa using this
      have hpe : p = f j := by
        rw [List.getElem?_map, List.getElem?_range hj] at hp
        simpa using hp.symm
      subst hpe
      obtain ⟨cs, h1, h2, h3⟩ := hf j hj
      exact ⟨cs, h1, h2, h3⟩
/-- The cells of a struct of whole numbers. -/
theorem struct_ints {e : TypeId} {fs : Array Field} {fuel : Nat} {cs : List Value} {x : DataW H × List MemPlace} (he : P.underlying e = some (.struct fs)) (hc : P.cellsOf e = fs.size)
    (hone : ∀ (i : Nat) (f : Field), fs[i]? = some f → f.offset = i ∧ P.cellsOf f.type = 1 ∧ P.underlying f.type = some (.int .i64)) (h : DataW.trod enc P w base spare held fuel e cs = some x) :
    cs.length = fs.size ∧ ∀ i, i < fs.size → ∃ n, cs[i]? = some (.int .i64 n) := by
  obtain ⟨xs, k, _, _, hl, hxl, hf⟩ := DataW.trod_struct he h
  refine ⟨hl.trans hc, fun i hi => ?_⟩
  have hfi : fs[i]? = some fs[i] := by simp [hi]
  obtain ⟨o, c, u⟩ := hone i _ hfi
  have g := hf i _ hfi
  rw [o, c, List.getElem?_eq_getElem (by omega)] at g
  obtain ⟨n, hn, _⟩ := DataW.trod_int u g
  have hlt : i < cs.length := by omega
  rw [List.drop_eq_getElem_cons hlt, List.take_succ_cons, List.take_zero] at hn
  simp only [List.cons.injEq, and_true] at hn
  exact ⟨n, by rw [List.getElem?_eq_getElem hlt, hn]⟩
theorem two_cells {cs : List Value} (hl : cs.length = 2) (h : ∀ i, i < 2 → ∃ n, cs[i]? = some (Value.int .i64 n)) : ∃ a b, cs = [.int .i64 a, .int .i64 b] := by
  obtain ⟨a, ha⟩ := h 0 (by omega)
  obtain ⟨b, hb⟩ := h 1 (by omega)
  match cs, hl with
  | [x, y], _ =>
    simp at ha hb
    exact ⟨a, b, by rw [ha, hb]⟩
theorem six_cells {cs : List Value} (hl : cs.length = 6) (h : ∀ i, i < 6 → ∃ n, cs[i]? = some (Value.int .i64 n)) : ∃ a b c d e f, cs = [.int .i64 a, .int .i64 b, .int .i64 c, .int .i64 d, .int .i64 e, .int .i64 f] := by
  obtain ⟨a, ha⟩ := h 0 (by omega)
  obtain ⟨b, hb⟩ := h 1 (by omega)
  obtain ⟨c, hc⟩ := h 2 (by omega)
  obtain ⟨d, hd⟩ := h 3 (by omega)
  obtain ⟨e, he⟩ := h 4 (by omega)
  obtain ⟨f, hf⟩ := h 5 (by omega)
  match cs, hl with
  | [x, y, z, u, v, q], _ =>
    simp at ha hb hc hd he hf
    exact ⟨a, b, c, d, e, f, by rw [ha, hb, hc, hd, he, hf]⟩
end
section
variable {H : Type} {enc : TypeId × Value → H} {w : World} {base : Nat} {spare : Nat → Bool} {held : Bool}
/-- Every field of the struct type e is one whole number, in its place. -/
def allInts (P : Program) (fs : Array Field) : Bool := (List.range fs.size).all fun i => match fs[i]? with
  | some f => f.offset == i && P.cellsOf f.type == 1 && (match P.underlying f.type with | some (.int .i64) => true | _ => false)
  | none => false
theorem allInts_of {P : Program} {fs : Array Field} (h : allInts P fs = true) : ∀ (i : Nat) (f : Field), fs[i]? = some f → f.offset = i ∧ P.cellsOf f.type = 1 ∧ P.underlying f.type = some (.int .i64) := by
  intro i f hf
  have hi : i < fs.size := by
    rcases Nat.lt_or_ge i fs.size with h | h
    · exact h
    · simp [h] at hf
  unfold allInts at h
  rw [List.all_eq_true] at h
  have := h i (List.mem_range.2 hi)
  rw [hf] at this
  simp only [Bool.and_eq_true, beq_iff_eq] at this
  refine ⟨this.1.1, this.1.2, ?_⟩
  have h3 := this.2
  split at h3
  · assumption
  · cases h3
end
instance : Inhabited S42 := ⟨⟨0, 0⟩⟩
instance : Inhabited S82 := ⟨⟨0, 0⟩⟩
instance : Inhabited S56 := ⟨⟨0, 0, 0, 0⟩⟩
instance : Inhabited S80 := ⟨⟨0, 0, 0, 0, 0, 0⟩⟩
set_option maxRecDepth 100000 in
theorem row_L {H : Type} {enc : TypeId × Value → H} {W : World} {r : Reach} {b0 : Nat} {v : Value} {d : DataW H} {p : List MemPlace} (hv : Value.okWide Try.prog W r b0 28 v) (h : DataW.Trod enc Try.prog W 0 (fun _ => true) true 28 v d p) :
    ∃ A c xs, v = .slice A (List.length xs) c ∧ xs.length ≤ c ∧ Kd.C (Kd.int .i64) W A xs.length xs := by
  obtain ⟨a, len, cap, rfl⟩ := okWide_slice Try.underlying28 hv
  obtain ⟨fuel, hf⟩ := h
  refine open_row (d := (Kd.int .i64)) Try.underlying28 (by kernel_rfl) (fun n cs y hy => ?_) (by simpa [Value.cells] using hf)
  obtain ⟨m, rfl, _⟩ := DataW.trod_int Try.underlying3 hy
  exact ⟨m, rfl⟩
set_option maxRecDepth 100000 in
theorem agg_P {H : Type} {enc : TypeId × Value → H} {W : World} {r : Reach} {b0 : Nat} {v : Value} {d : DataW H} {p : List MemPlace} (hv : Value.okWide Try.prog W r b0 25 v) (h : DataW.Trod enc Try.prog W 0 (fun _ => true) true 25 v d p) :
    ∃ A0 c0 z0 A1 c1 z1, v = .agg #[.slice A0 (List.length z0) c0, .slice A1 (List.length z1) c1] ∧ z0.length ≤ c0 ∧ Kd.C k42 W A0 z0.length z0 ∧ z1.length ≤ c1 ∧ Kd.C k80 W A1 z1.length z1 := by
  obtain ⟨v0, v1, y0, y1, m, rfl, _, _, h0, h1⟩ := Go.Joins.open_agg2 Try.underlying25 (by kernel_rfl) (by kernel_rfl) hv h
  obtain ⟨A0, c0, z0, rfl, hc0, hz0⟩ := open_row (d := k42) Try.underlying22 (by kernel_rfl) (fun n cs y hy => by
    obtain ⟨hl, hc⟩ := struct_ints Try.underlying42 (by kernel_rfl) (allInts_of (by kernel_rfl)) hy
    obtain ⟨a, b, rfl⟩ := two_cells hl hc
    exact ⟨⟨a, b⟩, k42_mk W ⟨a, b⟩⟩) h0
  obtain ⟨A1, c1, z1, rfl, hc1, hz1⟩ := open_row (d := k80) Try.underlying23 (by kernel_rfl) (fun n cs y hy => by
    obtain ⟨hl, hc⟩ := struct_ints Try.underlying80 (by kernel_rfl) (allInts_of (by kernel_rfl)) hy
    obtain ⟨a, b, c, d, e, f, rfl⟩ := six_cells hl hc
    exact ⟨⟨a, b, c, d, e, f⟩, k80_mk W ⟨a, b, c, d, e, f⟩⟩) h1
  exact ⟨A0, c0, z0, A1, c1, z1, rfl, hc0, hz0, hc1, hz1⟩
end Go.Proofs.Ytlfopemghafboaa.D
