/- Functions that the evaluator takes as known. Conditions: none beyond the hypotheses of each theorem. -/
import Derived.Test.YtdjgjnahfekdhaaGreatDoorQ2
import Derived.Handy
import Derived.LoopTactic
set_option linter.unusedSectionVars false
set_option linter.unusedVariables false
set_option linter.unusedSimpArgs false
namespace Go.Proofs
open Go.RowKit
structure Held (p : Prop) : Prop where mk :: (out : p)
def keyBs : List Nat → List UInt8
  | [] => []
  | n :: ns => Lib.decDigits n ++ (44 :: keyBs ns)
theorem keyBs_append : ∀ (a b : List Nat), keyBs (a ++ b) = keyBs a ++ keyBs b
  | [], b => rfl
  | x :: a, b => by simp [keyBs, keyBs_append a b]
theorem keyBs_take {zs : List Nat} {i : Nat} (h : i < zs.length) : keyBs (zs.take (i + 1)) = keyBs (zs.take i) ++ (Lib.decDigits (zs.getD i 0) ++ [44]) := by
  rw [List.take_add_one, keyBs_append]
  simp [h, keyBs]
theorem keyBs_take_le {zs : List Nat} {i : Nat} : (keyBs (zs.take i)).length ≤ (keyBs zs).length := by
  conv => rhs; rw [← List.take_append_drop i zs, keyBs_append]
  simp
theorem keyBs_ge : ∀ (zs : List Nat), zs.length ≤ (keyBs zs).length
  | [] => Nat.le_refl _
  | z :: zs => by have := keyBs_ge zs; simp [keyBs]; omega
theorem cell_lt {w : World} {p : Addr} {v : Value} (h : w.cell? p = some v) : p.block < w.heap.size := by
  simp only [World.cell?] at h
  split at h
  · rename_i hb; exact (Array.getElem?_eq_some_iff.1 hb).1
  · cases h
theorem strCells_mk (l : List UInt8) : Lib.strCells ⟨l.toArray⟩ = Lib.byteCells l := rfl
theorem digits_le {z : Nat} (h : z < 100) : (Lib.decDigits z).length ≤ 2 := by
  unfold Lib.decDigits
  split
  · simp
  · unfold Lib.decDigits
    rw [dif_pos (by omega)]
    simp
set_option maxHeartbeats 3200000 in
set_option maxRecDepth 100000 in
theorem key_ok (A : Option Addr) (n cap : Nat) (zs : List Nat) (hz : zs.length = n) (h100 : ∀ z ∈ zs, z < 100) (w : World) (hlen : (keyBs zs).length ≤ 140737488355328)
    (hc : ∀ j, j < n → ∃ y, A = some y ∧ y.spot = none ∧ w.cell? ⟨y.block, y.off + j, none⟩ = some (.int .i64 (zs.getD j 0 : Nat))) :
    Calls Tryz.prog 219 #[.slice A n cap] w fun e w' => e = .returned (.string ⟨(keyBs zs).toArray⟩) ∧ Below w.heap.size w w' := by
  have HC := Held.mk hc
  have HZ := Held.mk hz
  have H1 := Held.mk h100
  have HL := Held.mk hlen
  have hn : n ≤ 140737488355328 := by have := keyBs_ge zs; omega
  clear hc hz h100 hlen
  go_enter Tryz.func219, Tryz.ntmps219
  go_wp2
  go_loopw [8] (fun v8 wr => ∃ i : Nat, v8 = .int .i64 (i : Int) ∧ i ≤ n ∧ Held (Lib.IsBuilder 276 5 w.heap.size w.heap.size (Lib.byteCells (keyBs (zs.take i))) wr ∧ Below w.heap.size w wr)) (fun v8 _ => n - (intOf v8).toNat)
  case atStart => exact ⟨0, rfl, Nat.zero_le _, ⟨Lib.fresh_isBuilder 276 5 w, (Below.refl _ w).alloc (Nat.le_refl _) _⟩⟩
  case round =>
    obtain ⟨i, rfl, hi, HB⟩ := hrel
    by_cases hlt : i < n
    · have hltb : decide ((i : Int) < (n : Int)) = true := by simpa using hlt
      obtain ⟨⟨yb, yo, ysp⟩, hA, hsp, hcell⟩ := HC.out i hlt
      simp only at hsp hcell
      subst hA hsp
      have x0 : wr.cell? ⟨yb, yo + i, none⟩ = some (.int .i64 (zs.getD i 0 : Nat)) := (HB.out.2.cell (by exact cell_lt hcell)).trans hcell
      have hzl : zs.getD i 0 < 100 := by
        have hi2 : i < zs.length := by rw [HZ.out]; exact hlt
        rw [List.getD_eq_getElem?_getD, List.getElem?_eq_getElem hi2]
        exact H1.out _ (List.getElem_mem hi2)
      have HT := Held.mk (keyBs_take (zs := zs) (i := i) (by rw [HZ.out]; exact hlt))
      have HL2 := Held.mk (Nat.le_trans (keyBs_take_le (zs := zs) (i := i + 1)) HL.out)
      generalize zs.getD i 0 = z at x0 hzl HT
      have HZL := Held.mk hzl
      have hsz : (⟨(Lib.decDigits z).toArray⟩ ++ ⟨#[44]⟩ : ByteArray) = ⟨(Lib.decDigits z ++ [44]).toArray⟩ := by
        apply ByteArray.ext
        simp [ByteArray.data_append]
      have HS := Held.mk hsz
      have HD := Held.mk (digits_le hzl)
      clear hcell hzl hsz
      have hnat : ((i : Int)).toNat = i := Int.toNat_natCast i
      go_wp2_with (go_at_call 253; refine (Tryz.strconv_Itoa_small z HZL.out _).mono ?_)
      rintro e w2 ⟨rfl, rfl⟩
      go_wp2_with (go_at_call 252; rw [HS.out]; refine (write_ok w.heap.size w.heap.size (Lib.byteCells (keyBs (zs.take i))) _ _ HB.out.1 ?c1 HB.out.2.size).mono ?_)
      case isTrue =>
        rename_i hx
        have := HD.out
        omega
      case c1 =>
        rw [Lib.byteCells_length]
        have := HL2.out
        rw [HT.out] at this
        show _ + (Lib.decDigits z ++ [44]).toArray.size ≤ _
        simpa using this
      rintro e w3 ⟨rfl, h1, h2, h3⟩
      rw [strCells_mk, ← Lib.byteCells_append, ← HT.out] at h1
      have HB3 := Held.mk (And.intro (Or.inr h1 : Lib.IsBuilder 276 5 w.heap.size w.heap.size (Lib.byteCells (keyBs (zs.take (i + 1)))) w3) (HB.out.2.trans h2))
      clear h1 h2 h3
      go_wp2
      go_roundw
      case rel => exact ⟨i + 1, by go_num, by omega, HB3⟩
      case measure => simp [intOf]; omega
    · have hltb : decide ((i : Int) < (n : Int)) = false := by simpa using hlt
      have hin : i = n := by omega
      subst hin
      have ht : zs.take i = zs := by rw [← HZ.out]; exact List.take_length
      rw [ht] at HB
      go_wp2_with (go_at_call 254; refine (Tryz.Builder_String_any w.heap.size w.heap.size (keyBs zs) _ HB.out.1 HB.out.2.size).mono ?_)
      rintro e w2 ⟨rfl, h2⟩
      have H2 := Held.mk (HB.out.2.trans h2)
      clear h2
      go_wp2
      go_ret
      exact ⟨rfl, H2.out⟩
end Go.Proofs
