/- Functions that the evaluator takes as known. Conditions: none beyond the hypotheses of each theorem. -/
import Derived.Test.YtdjgjnahfekdhaaGreatDoorQ6
import Derived.WalkKit
set_option linter.unusedSectionVars false
set_option linter.unusedVariables false
set_option linter.unusedSimpArgs false
namespace Go.Proofs
open Go.RowKit Go.Av
theorem alloc_heap (w : World) (o : Obj) : (w.alloc o).heap = w.heap.push o := rfl
theorem alloc_cell_old {w : World} {o : Obj} {b : Nat} (h : b < w.heap.size) (j : Nat) : (w.alloc o).cell? ⟨b, j, none⟩ = w.cell? ⟨b, j, none⟩ := cell_congr (by rw [alloc_heap, Array.getElem?_push, if_neg (by omega)]) j
def PutAt (b q : Nat) (w : World) : Prop := w.heap[q]? = some (.cells #[.func (.func 255) #[] #[.pointer (some ⟨b, 0, none⟩), .pointer (some ⟨q, 0, none⟩)]] 283 (0, 0))
structure PutIn (B : Nat) (w0 : World) (b q xb : Nat) (xo : Obj) (acc : List UInt8) (w : World) : Prop where
  box : w.heap[xb]? = some xo
  nb : xb ≠ b
  ty : ∀ cur fr, xo ≠ .cells cur 5 fr
  below : Below B w0 w
  bld : Lib.IsBuilder 276 5 B b (Lib.byteCells acc) w
  put : PutAt b q w
  ne : q ≠ b
theorem PutAt.lt {b q : Nat} {w : World} (h : PutAt b q w) : q < w.heap.size := (Array.getElem?_eq_some_iff.1 h).1
theorem IsB_below {T e B b : Nat} {bs : List Value} {w w' : World} (h : Lib.IsBuilder T e B b bs w) (hb : Below w.heap.size w w') : Lib.IsBuilder T e B b bs w' := by
  have key : ∀ p, Lib.BuilderAt T e B b p bs w → Lib.BuilderAt T e B b p bs w' := by
    rintro p ⟨h1, v, h2, h3, h4⟩
    refine ⟨h1, v, ?_, ?_, h4⟩
    · rw [hb.block b (Array.getElem?_eq_some_iff.1 h2).1]; exact h2
    · refine ⟨h3.1, ?_⟩
      rcases h3.2 with h5 | ⟨g, cap, cur, h6, h7, h8, h9⟩
      · exact .inl h5
      · exact .inr ⟨g, cap, cur, h6, h7, by rw [hb.block g (Array.getElem?_eq_some_iff.1 h8).1]; exact h8, h9⟩
  exact h.imp (key _) (key _)
theorem PutIn.later {B : Nat} {w0 w w' : World} {b q xb : Nat} {xo : Obj} {acc : List UInt8} (h : PutIn B w0 b q xb xo acc w) (hB : B ≤ w.heap.size) (hb : Below w.heap.size w w') : PutIn B w0 b q xb xo acc w' :=
  ⟨(hb.block xb (Array.getElem?_eq_some_iff.1 h.box).1).trans h.box, h.nb, h.ty, h.below.trans (hb.mono hB), IsB_below h.bld hb, (hb.block q h.put.lt).trans h.put, h.ne⟩
theorem PutIn.wrote {B : Nat} {w0 w w' : World} {b q xb : Nat} {xo : Obj} {acc l : List UInt8} (h : PutIn B w0 b q xb xo acc w) (h1 : Lib.BuilderAt 276 5 B b (.pointer (some ⟨b, 0, none⟩)) (Lib.byteCells acc ++ Lib.strCells ⟨l.toArray⟩) w') (h2 : Below B w w') (h3 : Kept b w w') : PutIn B w0 b q xb xo (acc ++ l) w' := by
  refine ⟨(h3 xb (Array.getElem?_eq_some_iff.1 h.box).1 h.nb fun cur fr hx => by rw [h.box] at hx; exact h.ty cur fr (Option.some.inj hx)).trans h.box, h.nb, h.ty, h.below.trans h2, .inr ?_, ?_, h.ne⟩
  · rw [strCells_mk, ← Lib.byteCells_append] at h1; exact h1
  · exact (h3 q h.put.lt h.ne fun cur fr hx => by
      rw [h.put] at hx
      simp at hx).trans h.put
set_option maxHeartbeats 6400000 in
set_option maxRecDepth 100000 in
theorem put_ok {c : Ctx} {H : Heap} {w0 : World} (h0 : RH c H w0) (b q xb : Nat) (xo : Obj) : ∀ (f : Nat) (x : List V) (l : List UInt8) (vs : List Value), putL f x = some l → RVs c H w0 x vs → ∀ (acc : List UInt8) (W : World), PutIn w0.heap.size w0 b q xb xo acc W → acc.length + l.length ≤ 140737488355328 →
    Calls Tryz.prog 255 #[.agg vs.toArray, .pointer (some ⟨b, 0, none⟩), .pointer (some ⟨q, 0, none⟩)] W fun e W' => e = .returned (.tuple #[]) ∧ PutIn w0.heap.size w0 b q xb xo (acc ++ l) W' := by
  intro f
  induction f with
  | zero => intro x l vs hx; simp [putL] at hx
  | succ f ih =>
  intro x l vs hx hv acc W hP hl
  obtain ⟨g, k, n, len, full, cs, bs, hg, rfl, hk, hn, hlen, hbl, rfl, hbs⟩ := putL_some hx
  obtain rfl : f = g := by omega
  clear hg hx
  simp only [RVs, RV] at hv
  obtain ⟨_, _, rfl, rfl, _, _, rfl, rfl, _, _, rfl, ⟨A, cap, rfl, hcap, _, hnil, hcells⟩, rfl⟩ := hv
  have HP := Held.mk hP
  have HCE := Held.mk (And.intro hnil hcells)
  have HBS := Held.mk hbs
  have HI := Held.mk @ih
  have HL := Held.mk hl
  have HBL := Held.mk hbl
  clear hP hnil hcells hbs ih hl hbl
  have hs0 : w0.heap.size ≤ W.heap.size := HP.out.below.size
  go_enter Tryz.func255, Tryz.ntmps255
  go_wp2_with (go_at_call 219; refine (key_ok _ 3 _ [k, n, len] rfl ?c1 _ ?c2 ?c3).mono ?_)
  case c1 => intro z hz; simp at hz; omega
  case c2 => have := HL.out; simp only [List.length_append] at this; omega
  case c3 =>
    intro j hj
    refine ⟨_, rfl, rfl, ?_⟩
    have : j = 0 ∨ j = 1 ∨ j = 2 := by omega
    refine (Lib.cell_of_heap (w := (W.alloc _).alloc _) (cs := #[.int .i64 (k : Int), .int .i64 (n : Int), .int .i64 (len : Int)]) (T := 3) (fr := (0, 0)) (by rw [alloc_heap, Array.getElem?_push, alloc_heap, Array.size_push, if_pos rfl]) _).trans ?_
    rcases this with rfl | rfl | rfl <;> rfl
  rintro e w1 ⟨rfl, hb1⟩
  have hbW : Below W.heap.size W w1 := (((Below.refl _ W).alloc (Nat.le_refl _) _).alloc (by rw [alloc_heap, Array.size_push]; omega) _).trans (hb1.mono (by rw [alloc_heap, Array.size_push, alloc_heap, Array.size_push]; omega))
  have hx1 : w1.heap[W.heap.size]? = some (.cells #[.int .i64 (k : Int), .int .i64 (n : Int), .slice A len cap] 62 (0, 0)) := by
    rw [hb1.block _ (by rw [alloc_heap, Array.size_push, alloc_heap, Array.size_push]; omega), alloc_heap, Array.getElem?_push, alloc_heap, Array.size_push, if_neg (by omega), Array.getElem?_push, if_pos rfl]
  have hs1 : W.heap.size < w1.heap.size := (Array.getElem?_eq_some_iff.1 hx1).1
  have HP1 := Held.mk (HP.out.later hs0 hbW)
  go_wp2_with (go_at_call 252; refine (write_ok _ _ _ _ _ HP1.out.bld ?c4 ?c5).mono ?_)
  case c4 =>
    have := HL.out
    simp only [List.length_append] at this
    rw [Lib.byteCells_length]
    show _ + (keyBs [k, n, len]).toArray.size ≤ _
    simp only [List.size_toArray]
    omega
  case c5 => omega
  rintro e w2 ⟨rfl, h1, h2, h3⟩
  have HP2 := Held.mk (HP1.out.wrote h1 h2 h3)
  have hbb : b ≠ W.heap.size := by
    have := (HP.out.bld.elim (fun h => h.lt) fun h => h.lt)
    omega
  have hx2 : w2.heap[W.heap.size]? = some (.cells #[.int .i64 (k : Int), .int .i64 (n : Int), .slice A len cap] 62 (0, 0)) :=
    (h3 _ hs1 (Ne.symm hbb) fun cur fr hx => by rw [hx1] at hx; simp at hx).trans hx1
  have c20 : w2.cell? ⟨W.heap.size, 2, none⟩ = some (.slice A len cap) := (Lib.cell_of_heap hx2 2).trans rfl
  clear h1 h2 h3 hx1 hx2 hb1
  have hbl2 : bs.length < 100 := by rw [HBL.out]; exact hlen
  have HE : Held (∀ i, i < len → ∃ y k' n' l' c' A', A = some y ∧ y.spot = none ∧ RVs c H w0 ((cs.drop (i * 3)).take 3) [.int .i64 (k' : Nat), .int .i64 (n' : Nat), .slice A' l' c'] ∧
      w0.cell? ⟨y.block, y.off + i * 3, none⟩ = some (.int .i64 (k' : Nat)) ∧ w0.cell? ⟨y.block, y.off + i * 3 + 1, none⟩ = some (.int .i64 (n' : Nat)) ∧ w0.cell? ⟨y.block, y.off + i * 3 + 2, none⟩ = some (.slice A' l' c')) := ⟨fun i hi => by
    obtain ⟨g2, k', n', l', full', cs', bs', _, he, _⟩ := putL_some (HBS.out i hi)
    cases hA : A with
    | none => have := (HCE.out.1 hA).1; omega
    | some y =>
      obtain ⟨hsp, hrv⟩ := HCE.out.2 y hA
      obtain ⟨us, hu, hr⟩ := rvat_rows hrv
      have h3 := RVs_take (RVs_drop hu (i * 3)) 3
      have h4 := h3
      rw [he] at h4
      simp only [RVs, RV] at h4
      obtain ⟨_, _, e1, rfl, _, _, rfl, rfl, _, _, rfl, ⟨A', c', rfl, _⟩, rfl⟩ := h4
      refine ⟨y, k', n', l', c', A', rfl, hsp (by omega), by rw [← e1]; exact h3, ?_, ?_, ?_⟩
      · have := congrArg (·[0]?) e1
        simp at this
        exact hr (i * 3) _ this
      · have := congrArg (·[1]?) e1
        simp at this
        exact hr (i * 3 + 1) _ this
      · have := congrArg (·[2]?) e1
        simp at this
        exact hr (i * 3 + 2) _ this⟩
  go_wp2
  go_loopw [19] (fun v19 wr => ∃ i : Nat, v19 = .int .i64 (i : Int) ∧ i ≤ len ∧ Held (PutIn w0.heap.size w0 b q xb xo (acc ++ keyBs [k, n, len] ++ (bs.take i).flatten) wr)) (fun v19 _ => len - (intOf v19).toNat)
  case atStart => exact ⟨0, rfl, Nat.zero_le _, by simpa using HP2⟩
  case round =>
    obtain ⟨i, rfl, hi, HR⟩ := hrel
    by_cases hlt : i < len
    · have hltb : decide ((i : Int) < (len : Int)) = true := by simpa using hlt
      obtain ⟨⟨yb, yo, ysp⟩, k', n', l', c', A', hA, hsp, hrv, hc0, hc1, hc2⟩ := HE.out i hlt
      simp only at hsp hc0 hc1 hc2
      subst hA hsp
      have HRV := Held.mk hrv
      have x0 := (HR.out.below.cell (p := ⟨yb, yo + i * 3, none⟩) (by exact cell_lt hc0)).trans hc0
      have x1 := (HR.out.below.cell (p := ⟨yb, yo + i * 3 + 1, none⟩) (by exact cell_lt hc1)).trans hc1
      have x2 := (HR.out.below.cell (p := ⟨yb, yo + i * 3 + 2, none⟩) (by exact cell_lt hc2)).trans hc2
      have hnat : ((i : Int)).toNat = i := Int.toNat_natCast i
      clear hrv hc0 hc1 hc2
      have hq := HR.out.put.lt
      have hqn : ¬ q = wr.heap.size := by omega
      have xq : wr.cell? ⟨q, 0, none⟩ = some (.func (.func 255) #[] #[.pointer (some ⟨b, 0, none⟩), .pointer (some ⟨q, 0, none⟩)]) := (Lib.cell_of_heap HR.out.put 0).trans rfl
      have hwb : w0.heap.size ≤ wr.heap.size := HR.out.below.size
      have HTK := Held.mk (show (bs.take (i + 1)).flatten = (bs.take i).flatten ++ bs.getD i [] by
        rw [List.take_add_one, List.flatten_append]
        have : i < bs.length := by rw [HBL.out]; exact hlt
        simp [this])
      have HTL := Held.mk (show (bs.take (i + 1)).flatten.length ≤ bs.flatten.length by
        conv => rhs; rw [← List.take_append_drop (i + 1) bs, List.flatten_append]
        simp)
      go_wp2_with (go_at_call 255; refine (HI.out _ _ [.int .i64 (k' : Int), .int .i64 (n' : Int), .slice A' l' c'] (HBS.out i hlt) HRV.out _ _ (HR.out.later hwb ((Below.refl _ wr).alloc (Nat.le_refl _) _)) ?c9).mono ?_)
      case c9 =>
        have h1 := HTK.out
        have h2 := HTL.out
        have h3 := HL.out
        rw [h1] at h2
        simp only [List.length_append] at h2 h3 ⊢
        omega
      rintro e w3 ⟨rfl, h3⟩
      rw [List.append_assoc, ← HTK.out] at h3
      have H3 := Held.mk h3
      clear h3
      go_wp2
      go_roundw
      case rel => exact ⟨i + 1, by go_num, by omega, H3⟩
      case measure => simp [intOf]; omega
    · have hltb : decide ((i : Int) < (len : Int)) = false := by simpa using hlt
      have hin : i = len := by omega
      subst hin
      have ht : bs.take i = bs := by rw [← HBL.out]; exact List.take_length
      rw [ht, List.append_assoc] at HR
      go_wp2
      go_end0
      exact ⟨rfl, HR.out⟩
end Go.Proofs
