/- Functions that the evaluator takes as known. Conditions: none beyond the hypotheses of each theorem. -/
import Derived.Test.YtdjgjnahfekdhaaGreatDoorP3
import Derived.Test.YtdjgjnahfekdhaaGreatDoorQ3
import Derived.Test.YtdjgjnahfekdhaaGreatDoorP2
import Derived.Laws.EntriesVeiled
import Derived.Laws.MakeOwn
import Derived.Laws.CopyOwn
import Derived.Deep.RegionHeldLaw
set_option linter.unusedSectionVars false
set_option linter.unusedVariables false
set_option linter.unusedSimpArgs false
namespace Go.Proofs
open Go.RowKit Go.Av
theorem info3 : (Tryz.prog.info? 3).map (fun i => (i.zero, i.size, i.bytes)) = some (some (.int .i64 0), 1, 8) := by kernel_rfl
theorem size3 : (Tryz.prog.info? 3).map (·.size) = some 1 := by kernel_rfl
def repRow (c n : Nat) (v : Int) : List Value := List.replicate n (.int .i64 v) ++ List.replicate (c - n) (.int .i64 0)
def RepQ (c n : Nat) (v : Int) (g : Nat) (w1 w : World) : Prop :=
  (w.heap[g]? = some (.cells (repRow c n v).toArray 3 (0, 0)) ∨ w.heap[g]? = some (.cells (repRow c (n + min n (c - n)) v).toArray 3 (0, 0))) ∧ Below g w1 w
theorem rep_splice {c n k : Nat} {v : Int} (hn : 1 ≤ n) (h : n < c) (hk : k = n ∨ k = n + min n (c - n)) : splice (repRow c k v) n (List.replicate (min n (c - n)) (.int .i64 v)) = repRow c (n + min n (c - n)) v := by
  have hm : min n (c - n) ≤ c - n := Nat.min_le_right _ _
  unfold splice repRow
  apply List.ext_getElem?
  intro j
  generalize min n (c - n) = m at *
  simp only [List.getElem?_append, List.getElem?_take, List.getElem?_drop, List.getElem?_replicate, List.length_take, List.length_append, List.length_replicate]
  rcases hk with rfl | rfl
  · have e1 : min k (k + (c - k)) = k := by omega
    rw [e1]
    repeat' split
    all_goals first | rfl | omega | (simp; omega)
  · have e1 : min n (n + m + (c - (n + m))) = n := by omega
    rw [e1]
    repeat' split
    all_goals first | rfl | omega | (simp; omega)
theorem step_rep {ops : Array Oper} {o : Oper} {a : Act} {w w1 : World} {K : Act → World → Prop} {Q : Exit → Act → World → Prop} {E : Prop} (hgd : o.guard = none) (d s : Operand)
    (ho : o.op = .call { callee := .builtin .copy, args := #[d, s], argTypes := #[27, 27] }) (c n g : Nat) (v : Int) (dLen dCap sCap : Nat) (hd : a.eval d = .slice (some ⟨g, n, none⟩) dLen dCap) (hs : a.eval s = .slice (some ⟨g, 0, none⟩) n sCap) (hdl : dLen = c - n)
    (hn : 1 ≤ n) (hlt : n < c) (hgw : g = w1.heap.size) (hq : RepQ c n v g w1 w) (h : ∀ w', RepQ c n v g w1 w' → w'.heap[g]? = some (.cells (repRow c (n + min n (c - n)) v).toArray 3 (0, 0)) → K (a.put o.dst (goInt (min n (c - n) : Nat))) w') :
    if Region.wanted o (yielded ops a.tmps) = true then Oper.wp Tryz.prog o a w K Q else E := by
  subst hgw hdl
  obtain ⟨hr, hb⟩ := hq
  have key : ∀ k, (k = n ∨ k = n + min n (c - n)) → w.heap[w1.heap.size]? = some (.cells (repRow c k v).toArray 3 (0, 0)) → if Region.wanted o (yielded ops a.tmps) = true then Oper.wp Tryz.prog o a w K Q else E := fun k hk hg => by
    refine step_copy_splice hgd d s 27 27 ho 3 Tryz.underlying27 size3 _ _ _ _ _ _ hd hs w1.heap.size n (repRow c k v) 3 hg (List.replicate (min n (c - n)) (.int .i64 v)) (by simp [Nat.min_def]) (fun _ => ⟨rfl, _, rfl, fun j u hu => ?_⟩) ?_ ?_ w1.heap.size w1 hb (Nat.le_refl _) (fun w' hg' hb' => ?_)
    · have hj : j < min n (c - n) := by
        have := (List.getElem?_eq_some_iff.1 hu).1
        simpa using this
      rw [List.getElem?_replicate, if_pos hj] at hu
      cases hu
      show w.cell? ((⟨w1.heap.size, 0, none⟩ : Addr).add j) = _
      rw [add_mid, cell_at hg, Nat.zero_add, List.getElem?_toArray]
      unfold repRow
      rw [List.getElem?_append_left (by simp; omega), List.getElem?_replicate, if_pos (by omega)]
    · unfold repRow
      simp only [List.length_append, List.length_replicate]
      rcases hk with rfl | rfl <;> omega
    · intro u hu
      rw [List.mem_replicate] at hu
      rw [hu.2]; rfl
    · have hg2 : w'.heap[w1.heap.size]? = some (.cells (repRow c (n + min n (c - n)) v).toArray 3 (0, 0)) := by
        have := hg'
        rw [rep_splice hn hlt hk] at this
        exact this
      have := h w' ⟨.inr hg2, hb'⟩ hg2
      simpa using this
  rcases hr with hr | hr
  · exact key n (.inl rfl) hr
  · exact key _ (.inr rfl) hr
set_option maxHeartbeats 2000000 in
set_option maxRecDepth 100000 in
theorem repeat_ok (A : Addr) (cap c : Nat) (v : Int) (w : World) (hs : A.spot = none) (hc : w.cell? ⟨A.block, A.off, none⟩ = some (.int .i64 v)) (h1 : 1 ≤ c) (h2 : c ≤ 1000) :
    Calls Tryz.prog 206 #[.slice (some A) 1 cap, .int .i64 c] w fun e w' => ∃ v', e = .returned v' ∧ w'.ownsRow w.heap.size 3 1 v' c (List.replicate c (.int .i64 v)) ∧ v' ≠ .slice none 0 0 ∧ Below w.heap.size w w' := by
  obtain ⟨i0, hi, hz0, hz1, hz2⟩ := info_parts info3
  obtain ⟨ab, ao, asp⟩ := A
  simp only at hs hc
  subst hs
  have hc0 : decide ((c : Int) < 0) = false := decide_eq_false (by omega)
  have hcu : (c : Int) % 18446744073709551616 = c := by omega
  have hmk : ∀ w : World, (Instr.makeSlice 27 (.int .i64 (c : Int)) (.int .i64 (c : Int))).run Tryz.prog w = .ok (.slice (some ⟨w.heap.size, 0, none⟩) c c) (w.alloc (.cells (List.replicate c (Value.int .i64 0)).toArray 3)) := fun w => by
    have h := run_makeSlice (P := Tryz.prog) (w := w) 27 3 i0 (.int .i64 0) Tryz.underlying27 hi hz0 .i64 .i64 (c : Int) (c : Int) (by omega) (by omega) (by rw [hz1]; omega) (by rw [hz2]; omega) (by omega)
    rw [h, hz1]
    simp only [Int.toNat_natCast, Nat.mul_one]
    congr 3
    apply Array.ext'
    simp [madeCells, Value.cells, Nat.mod_one, List.map_const']
  go_enter Tryz.func206, Tryz.ntmps206
  go_wp2_with (go_at_call 241; refine (Tryz.bits_Mul 1 c (by decide) (by omega) _).mono ?_)
  rintro e w1 ⟨rfl, rfl⟩
  have m1 : ((1 * c / 18446744073709551616 : Nat) : Int) = 0 := by omega
  have m2 : ((1 * c % 18446744073709551616 : Nat) : Int) = c := by omega
  have m3 : decide ((c : Int) > 9223372036854775807) = false := decide_eq_false (by omega)
  rw [m1, m2]
  have hcb := cell_lt hc
  have hrow : ∀ n, n ≤ c → (List.replicate n (Value.int .i64 v) ++ List.replicate (c - n) (Value.int .i64 0)).length = c := fun n hn => by simp; omega
  have hg1 : (w1.alloc (.cells (Array.replicate c (Value.int .i64 0)) 3)).heap[w1.heap.size]? = some (.cells (Array.replicate c (Value.int .i64 0)) 3 (0, 0)) := heap_alloc_new w1 _
  have hcp := run_copy_row (P := Tryz.prog) (w1.alloc (.cells (Array.replicate c (Value.int .i64 0)) 3)) 27 27 3 3 w1.heap.size 0 c c ⟨ab, ao, none⟩ 1 cap (Array.replicate c (.int .i64 0)) 3 [.int .i64 v] Tryz.underlying27 size3 hg1
    (by simp only [List.length_singleton, Nat.min_def]; split <;> omega)
    (fun j u hu => by
      have hj : j = 0 := by
        have := (List.getElem?_eq_some_iff.1 hu).1
        simpa using this
      subst hj
      cases hu
      exact (cell_congr (Lib.alloc_old w1 _ ab hcb) ao).trans hc)
    (by simp; omega) (by intro u hu; simp at hu; subst hu; rfl)
  have hr1 : ((Array.replicate c (Value.int .i64 0)).toList.take 0 ++ [Value.int .i64 v] ++ (Array.replicate c (Value.int .i64 0)).toList.drop (0 + [Value.int .i64 v].length)).toArray = (List.replicate 1 (Value.int .i64 v) ++ List.replicate (c - 1) (Value.int .i64 0)).toArray := by simp
  rw [hr1] at hcp
  have hb2 : Below w1.heap.size w1 ((w1.alloc (.cells (Array.replicate c (Value.int .i64 0)) 3)).setRow w1.heap.size (List.replicate 1 (Value.int .i64 v) ++ List.replicate (c - 1) (Value.int .i64 0)).toArray) := below_setRow ((Below.refl _ w1).alloc (Nat.le_refl _) _) (Nat.le_refl _) _
  have hg2 := setRow_heap (w1.alloc (.cells (Array.replicate c (Value.int .i64 0)) 3)) w1.heap.size _ (List.replicate 1 (Value.int .i64 v) ++ List.replicate (c - 1) (Value.int .i64 0)).toArray 3 (0, 0) hg1
  generalize (w1.alloc (.cells (Array.replicate c (Value.int .i64 0)) 3)).setRow w1.heap.size (List.replicate 1 (Value.int .i64 v) ++ List.replicate (c - 1) (Value.int .i64 0)).toArray = w2 at hcp hb2 hg2
  have H2 := Held.mk (And.intro hg2 hb2)
  clear hg2 hb2 hr1 hg1
  go_wp2
  go_loopw [8] (fun v8 wr => ∃ n : Nat, v8 = .int .i64 (n : Int) ∧ (1 ≤ n ∧ n ≤ c) ∧ Held (wr.heap[w1.heap.size]? = some (.cells (List.replicate n (Value.int .i64 v) ++ List.replicate (c - n) (Value.int .i64 0)).toArray 3 (0, 0)) ∧ Below w1.heap.size w1 wr)) (fun v8 _ => c - (intOf v8).toNat)
  case atStart => exact ⟨1, rfl, ⟨Nat.le_refl _, h1⟩, H2⟩
  case round =>
    obtain ⟨n, rfl, hn, HR⟩ := hrel
    by_cases hlt : n < c
    · have hltb : decide ((n : Int) < (c : Int)) = true := by simpa using hlt
      have HQd : RepQ c n v w1.heap.size w1 wr.drew := ⟨.inl HR.out.1, HR.out.2.drew⟩
      go_wp2
      go_region_held_law (fun w' => RepQ c n v w1.heap.size w1 w') ((first | exact HQd | assumption)) ((refine step_rep rfl (.tmp 41) (.tmp 44) rfl c n w1.heap.size v (c - n) (c - n) c (by first | (go_simp; done) | (go_simp; omega) | (go_simp; rfl)) (by first | (go_simp; done) | (go_simp; rfl)) rfl hn.1 hlt rfl HQd ?_; intro w4 hq4 hr4))
      have hmin : min n (c - n) ≤ c - n := Nat.min_le_right _ _
      have hmin1 : 1 ≤ min n (c - n) := by rw [Nat.le_min]; omega
      have hwr : IntKind.i64.wrap ((n : Int) + ((min n (c - n) : Nat) : Int)) = ((n + min n (c - n) : Nat) : Int) := by
        rw [IntKind.wrap_i64]
        generalize min n (c - n) = m at *
        omega
      generalize min n (c - n) = m at *
      go_wp2
      go_roundw
      case rel => exact ⟨n + m, by go_num, ⟨by omega, by omega⟩, ⟨by first | exact hr4 | rfl, hq4.2⟩⟩
      case measure =>
        simp only [intOf]
        omega
    · have hltb : decide ((n : Int) < (c : Int)) = false := by simpa using hlt
      have hin : n = c := by omega
      subst hin
      go_wp2
      go_ret
      refine ⟨_, rfl, ⟨by simp, .inr ⟨w1.heap.size, n, _, rfl, Nat.le_refl _, HR.out.1, Nat.le_refl _, by unfold maxLen; omega, by simp, by simp⟩⟩, by simp, HR.out.2⟩
end Go.Proofs
