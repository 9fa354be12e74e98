/- Functions that the evaluator takes as known. Conditions: none beyond the hypotheses of each theorem. -/
import Derived.Test.YtdjgjnahfekdhaaGreatDoorQ3
import Derived.Test.YtdjgjnahfekdhaaGreatDoorP2
import Derived.Test.YtdjgjnahfekdhaaGreatDoorB1
set_option linter.unusedSectionVars false
set_option linter.unusedVariables false
set_option linter.unusedSimpArgs false
namespace Go.Proofs
open Go.RowKit Go.Av
theorem dec_small {n : Nat} (h : n < 100) : dec (n : Int) = Lib.decDigits n := by
  have h0 : ¬ ((n : Int) < 0) := by omega
  unfold dec
  rw [if_neg h0, Int.natAbs_natCast]
  unfold Lib.decDigits
  by_cases h10 : n < 10
  · rw [dif_pos h10]
    simp [decF, h10]
  · rw [dif_neg h10]
    unfold Lib.decDigits
    have : n / 10 < 10 := by omega
    rw [dif_pos this]
    simp [decF, h10, this]
theorem keyL_some : ∀ {vs : List V} {l : List UInt8}, keyL vs = some l → ∃ zs : List Nat, vs = zs.map (fun z : Nat => V.int .i64 (z : Int)) ∧ (∀ z ∈ zs, z < 100) ∧ l = keyBs zs
  | [], l, h => by simp only [keyL, Option.some.injEq] at h; exact ⟨[], rfl, by simp, h.symm⟩
  | v :: vs, l, h => by
    unfold keyL at h
    split at h
    · rename_i e; cases e
    · rename_i n vs' e
      cases e
      split at h
      · rename_i hn
        simp only [Option.map_eq_some_iff] at h
        obtain ⟨r, h1, rfl⟩ := h
        obtain ⟨zs, rfl, h2, rfl⟩ := keyL_some h1
        refine ⟨n.toNat :: zs, ?_, ?_, ?_⟩
        · have : ((n.toNat : Nat) : Int) = n := by omega
          simp [this]
        · intro z hz
          rcases List.mem_cons.1 hz with rfl | hz
          · omega
          · exact h2 z hz
        · have : ((n.toNat : Nat) : Int) = n := by omega
          rw [keyBs, ← dec_small (by omega), this]
      · cases h
    · cases h
theorem catM_some : ∀ {ys : List (Option (List UInt8))} {r : List UInt8}, catM ys = some r → ∃ bs : List (List UInt8), ys = bs.map some ∧ r = bs.flatten
  | [], r, h => by simp only [catM, Option.some.injEq] at h; exact ⟨[], rfl, by simp [← h]⟩
  | y :: ys, r, h => by
    simp only [catM, Option.bind_eq_some_iff, Option.map_eq_some_iff] at h
    obtain ⟨a, rfl, b, h1, rfl⟩ := h
    obtain ⟨bs, rfl, rfl⟩ := catM_some h1
    exact ⟨a :: bs, rfl, by simp⟩
theorem pieces_len (k : Nat) : ∀ (n : Nat) (l : List V), (pieces k n l).length = n
  | 0, _ => rfl
  | n + 1, l => by simp [pieces, pieces_len k n]
theorem pieces_get (k : Nat) : ∀ (n : Nat) (l : List V) (i : Nat), i < n → (pieces k n l)[i]? = some ((l.drop (i * k)).take k)
  | 0, _, i, h => by omega
  | n + 1, l, 0, _ => by simp [pieces]
  | n + 1, l, i + 1, h => by
    simp only [pieces, List.getElem?_cons_succ]
    rw [pieces_get k n (l.drop k) i (by omega), List.drop_drop]
    congr 3
    rw [Nat.add_mul]; omega
theorem put_pieces {f : Nat} {k n : Nat} {cs : List V} {r : List UInt8} (h : catM ((pieces k n cs).map (putL f)) = some r) :
    ∃ bs : List (List UInt8), bs.length = n ∧ r = bs.flatten ∧ ∀ i, i < n → putL f ((cs.drop (i * k)).take k) = some (bs.getD i []) := by
  obtain ⟨bs, h1, rfl⟩ := catM_some h
  have hl : bs.length = n := by
    have := congrArg List.length h1
    simpa [pieces_len] using this.symm
  refine ⟨bs, hl, rfl, fun i hi => ?_⟩
  have := congrArg (·[i]?) h1
  simp only [List.getElem?_map, pieces_get k n cs i hi, Option.map_some] at this
  have hb : i < bs.length := by omega
  rw [List.getElem?_eq_getElem hb, Option.map_some] at this
  rw [List.getD_eq_getElem?_getD, List.getElem?_eq_getElem hb]
  exact Option.some.inj this
theorem putL_some {f : Nat} {x : List V} {l : List UInt8} (h : putL f x = some l) : ∃ (g : Nat) (k n : Nat) (len : Nat) (full : Bool) (cs : List V) (bs : List (List UInt8)), f = g + 1 ∧ x = [.int .i64 k, .int .i64 n, .sl len full cs] ∧ k < 100 ∧ n < 100 ∧ len < 100 ∧ bs.length = len ∧
    l = keyBs [k, n, len] ++ bs.flatten ∧ ∀ i, i < len → putL g ((cs.drop (i * 3)).take 3) = some (bs.getD i []) := by
  unfold putL at h
  split at h
  · cases h
  · rename_i g k0 k k1 n len full cs
    simp only [Option.bind_eq_some_iff, Option.map_eq_some_iff] at h
    obtain ⟨a, h1, r, h2, rfl⟩ := h
    obtain ⟨zs, e1, h3, rfl⟩ := keyL_some h1
    obtain ⟨bs, h4, rfl, h5⟩ := put_pieces h2
    obtain ⟨z0, z1, z2, rfl⟩ : ∃ z0 z1 z2, zs = [z0, z1, z2] := by
      have hl := congrArg List.length e1
      match zs, hl with
      | [z0, z1, z2], _ => exact ⟨z0, z1, z2, rfl⟩
    simp only [List.map_cons, List.map_nil, List.cons.injEq, V.int.injEq, and_true] at e1
    obtain ⟨⟨rfl, rfl⟩, ⟨rfl, rfl⟩, _, e2⟩ := e1
    have : len = z2 := by omega
    subst this
    exact ⟨g, z0, z1, len, full, cs, bs, rfl, rfl, h3 _ (by simp), h3 _ (by simp), h3 _ (by simp), h4, rfl, h5⟩
  · cases h
end Go.Proofs
