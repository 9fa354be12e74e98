/- Functions that the evaluator takes as known. Conditions: none beyond the hypotheses of each theorem. -/
import Derived.Test.YtdjgjnahfekdhaaGreatDoorQ7
import Derived.Laws.EntriesVeiled
set_option linter.unusedSectionVars false
set_option linter.unusedVariables false
set_option linter.unusedSimpArgs false
namespace Go.Proofs
open Go.RowKit Go.Av
theorem putL_vals {c : Ctx} {H : Heap} {w : World} {f : Nat} {x : List V} {l : List UInt8} {vs : List Value} (h : putL f x = some l) (hv : RVs c H w x vs) :
    ∃ (k n m cap : Nat) (A : Option Addr), vs = [.int .i64 k, .int .i64 n, .slice A m cap] := by
  obtain ⟨g2, k', n', l', full', cs', bs', _, rfl, _⟩ := putL_some h
  simp only [RVs, RV] at hv
  obtain ⟨_, _, rfl, rfl, _, _, rfl, rfl, _, _, rfl, ⟨A', c', rfl, _⟩, rfl⟩ := hv
  exact ⟨k', n', l', c', A', rfl⟩
theorem key_cells {c : Ctx} {H : Heap} {w : World} {cs : List V} {zs : List Nat} (h : cs = zs.map (fun z : Nat => V.int .i64 (z : Int))) {vs : List Value} (hv : RVs c H w cs vs) : vs = zs.map fun z : Nat => Value.int .i64 (z : Int) := by
  subst h
  induction zs generalizing vs with
  | nil => simpa [RVs] using hv
  | cons z zs ih =>
    simp only [List.map_cons, RVs, RV] at hv
    obtain ⟨_, ys, rfl, rfl, h2⟩ := hv
    rw [ih h2]; rfl
set_option maxHeartbeats 6400000 in
set_option maxRecDepth 100000 in
theorem text_ok {c : Ctx} {H : Heap} {w0 : World} (h0 : RH c H w0) (x : List V) (l : List UInt8) (vs : List Value) (hx : textL x = some l) (hv : RVs c H w0 x vs) (hl : l.length ≤ 140737488355328) :
    Calls Tryz.prog 220 #[.agg vs.toArray] w0 fun e w' => e = .returned (.string ⟨l.toArray⟩) ∧ Below w0.heap.size w0 w' := by
  unfold textL at hx
  split at hx
  · rename_i nv fv us nc fc cs r
    split at hx
    · rename_i hlen
      obtain ⟨hnv, hr6⟩ := hlen
      simp only [Option.bind_eq_some_iff, Option.map_eq_some_iff] at hx
      obtain ⟨lk, hk, la, ha, lb, hb, ld, hd, rfl⟩ := hx
      obtain ⟨zs, hzs, hz100, rfl⟩ := keyL_some hk
      obtain ⟨bs, hbl, rfl, hbs⟩ := put_pieces hd
      simp only [RVs, RV] at hv
      obtain ⟨_, rest, rfl, ⟨A, cap, rfl, hcap, _, hnil, hcells⟩, _, vr, rfl, ⟨A2, cap2, rfl, hcap2, _, hnil2, hcells2⟩, hvr⟩ := hv
      have hva := RVs_take hvr 3
      have hvb := RVs_drop hvr 3
      obtain ⟨k1, n1, m1, p1, Q1, e1⟩ := putL_vals ha hva
      obtain ⟨k2, n2, m2, p2, Q2, e2⟩ := putL_vals hb hvb
      obtain rfl : vr = [.int .i64 k1, .int .i64 n1, .slice Q1 m1 p1, .int .i64 k2, .int .i64 n2, .slice Q2 m2 p2] := by
        rw [← List.take_append_drop 3 vr, e1, e2]; rfl
      have HVA := Held.mk hva
      have HVB := Held.mk hvb
      have HA := Held.mk ha
      have HB := Held.mk hb
      have HL := Held.mk hl
      have HZ := Held.mk (And.intro hzs hz100)
      have HBS := Held.mk hbs
      have HBL := Held.mk hbl
      have HC1 := Held.mk (And.intro hnil hcells)
      have HC2 := Held.mk (And.intro hnil2 hcells2)
      have HNV := Held.mk hnv
      clear hk ha hb hd hzs hz100 hbs hbl hnil hcells hnil2 hcells2 hvr hva hvb e1 e2 hl hnv hr6
      go_enter Tryz.func220, Tryz.ntmps220
      go_wp2_with (go_at_call 219; refine (key_ok _ nv _ zs ?c1 HZ.out.2 _ ?c2 ?c3).mono ?_)
      case c1 => have := congrArg List.length HZ.out.1; rw [HNV.out] at this; simpa using this.symm
      case c2 => have := HL.out; simp only [List.length_append] at this; omega
      case c3 =>
        intro j hj
        cases hA : A with
        | none => have := (HC1.out.1 hA).1; omega
        | some y =>
          obtain ⟨hsp, hrv⟩ := HC1.out.2 y hA
          obtain ⟨ws, hw1, hw2⟩ := rvat_rows hrv
          have e3 := key_cells HZ.out.1 hw1
          subst e3
          have hjz : j < zs.length := by have := congrArg List.length HZ.out.1; rw [HNV.out] at this; simp at this; omega
          have hcell := hw2 j (.int .i64 (zs.getD j 0 : Nat)) (by rw [List.getD_eq_getElem?_getD, List.getElem?_map, List.getElem?_eq_getElem hjz]; rfl)
          have hblt := cell_lt hcell
          simp only at hblt
          refine ⟨y, rfl, hsp (by omega), ?_⟩
          rw [alloc_cell_old (by rw [alloc_heap, Array.size_push]; omega), alloc_cell_old hblt]
          exact hcell
      rintro e w1 ⟨rfl, hb1⟩
      let xo : Obj := .cells #[.slice A nv cap, .slice A2 nc cap2, .int .i64 (k1 : Int), .int .i64 (n1 : Int), .slice Q1 m1 p1, .int .i64 (k2 : Int), .int .i64 (n2 : Int), .slice Q2 m2 p2] 64
      have hxo : xo = .cells #[.slice A nv cap, .slice A2 nc cap2, .int .i64 (k1 : Int), .int .i64 (n1 : Int), .slice Q1 m1 p1, .int .i64 (k2 : Int), .int .i64 (n2 : Int), .slice Q2 m2 p2] 64 := rfl
      have hsz2 : ((w0.alloc xo).alloc (Obj.cells #[Value.pointer none, Value.slice none 0 0] 276)).heap.size = w0.heap.size + 2 := by rw [alloc_heap, Array.size_push, alloc_heap, Array.size_push]
      have hbW : Below w0.heap.size w0 w1 := (((Below.refl _ w0).alloc (Nat.le_refl _) _).alloc (by rw [alloc_heap, Array.size_push]; omega) _).trans (hb1.mono (by rw [hsz2]; omega))
      have hx1 : w1.heap[w0.heap.size]? = some xo := by
        rw [hb1.block _ (by rw [hsz2]; omega), alloc_heap, Array.getElem?_push, alloc_heap, Array.size_push, if_neg (by omega), Array.getElem?_push, if_pos rfl]
      have hy1 : Lib.IsBuilder 276 5 w0.heap.size (w0.heap.size + 1) (Lib.byteCells []) w1 := by
        refine IsB_below (.inl ⟨by omega, .slice none 0 0, ?_, World.ownsRow_nil _ _ _ _, by simp [Value.ownBlock]⟩) hb1
        rw [alloc_heap, Array.getElem?_push, alloc_heap, Array.size_push, if_pos rfl]
      have hs1 : w0.heap.size + 2 ≤ w1.heap.size := by rw [← hsz2]; exact hb1.size
      have HY := Held.mk hy1
      clear hb1 hy1
      go_wp2_with (go_at_call 252; refine (write_ok w0.heap.size (w0.heap.size + 1) (Lib.byteCells []) _ _ HY.out ?c4 ?c5).mono ?_)
      case c4 =>
        have := HL.out
        simp only [List.length_append] at this
        show 0 + (keyBs zs).toArray.size ≤ _
        simp only [List.size_toArray]
        omega
      case c5 => omega
      rintro e w2 ⟨rfl, h1, h2, h3⟩
      have hb2 : Below w0.heap.size w0 w2 := hbW.trans h2
      have hx2 : w2.heap[w0.heap.size]? = some xo := (h3 _ (by omega) (by omega) fun cur fr hx => by rw [hx1, hxo] at hx; simp at hx).trans hx1
      have hs2 : w0.heap.size + 2 ≤ w2.heap.size := Nat.le_trans hs1 h2.size
      have hy2 : Lib.IsBuilder 276 5 w0.heap.size (w0.heap.size + 1) (Lib.byteCells (keyBs zs)) w2 := .inr (by rw [strCells_mk] at h1; exact h1)
      have HY2 := Held.mk hy2
      have HB2 := Held.mk hb2
      have HX2 := Held.mk hx2
      clear h1 h2 h3 hx1 hy2 hb2 hx2 hbW
      have hlt2 : w0.heap.size < w2.heap.size := by omega
      have hne2 : ¬ w0.heap.size = w2.heap.size := by omega
      have y2 : w2.cell? ⟨w0.heap.size, 2, none⟩ = some (.int .i64 (k1 : Int)) := (Lib.cell_of_heap HX2.out 2).trans rfl
      have y3 : w2.cell? ⟨w0.heap.size, 3, none⟩ = some (.int .i64 (n1 : Int)) := (Lib.cell_of_heap HX2.out 3).trans rfl
      have y4 : w2.cell? ⟨w0.heap.size, 4, none⟩ = some (.slice Q1 m1 p1) := (Lib.cell_of_heap HX2.out 4).trans rfl
      have HP := Held.mk (show PutIn w0.heap.size w0 (w0.heap.size + 1) w2.heap.size w0.heap.size xo (keyBs zs) (w2.alloc (.cells #[.func (.func 255) #[] #[.pointer (some ⟨w0.heap.size + 1, 0, none⟩), .pointer (some ⟨w2.heap.size, 0, none⟩)]] 283)) from
        ⟨by rw [alloc_heap, Array.getElem?_push, if_neg (by omega)]; exact HX2.out, by omega, fun cur fr hx => by rw [hxo] at hx; simp at hx, HB2.out.alloc (by omega) _,
          IsB_below HY2.out ((Below.refl _ w2).alloc (Nat.le_refl _) _), by unfold PutAt; rw [alloc_heap, Array.getElem?_push, if_pos rfl], by omega⟩)
      go_wp2_with (go_at_call 255; refine (put_ok h0 (w0.heap.size + 1) w2.heap.size w0.heap.size xo 300 _ _ _ HA.out HVA.out (keyBs zs) _ HP.out ?c7).mono ?_)
      case c7 =>
        have := HL.out
        simp only [List.length_append] at this ⊢
        omega
      rintro e w3 ⟨rfl, h3⟩
      have H3 := Held.mk h3
      clear h3 y2 y3 y4
      have x0 : w3.cell? ⟨w2.heap.size, 0, none⟩ = some (.func (.func 255) #[] #[.pointer (some ⟨w0.heap.size + 1, 0, none⟩), .pointer (some ⟨w2.heap.size, 0, none⟩)]) := (Lib.cell_of_heap H3.out.put 0).trans rfl
      have y5 : w3.cell? ⟨w0.heap.size, 5, none⟩ = some (.int .i64 (k2 : Int)) := (Lib.cell_of_heap H3.out.box 5).trans rfl
      have y6 : w3.cell? ⟨w0.heap.size, 6, none⟩ = some (.int .i64 (n2 : Int)) := (Lib.cell_of_heap H3.out.box 6).trans rfl
      have y7 : w3.cell? ⟨w0.heap.size, 7, none⟩ = some (.slice Q2 m2 p2) := (Lib.cell_of_heap H3.out.box 7).trans rfl
      go_wp2_with (go_at_call 255; refine (put_ok h0 (w0.heap.size + 1) w2.heap.size w0.heap.size xo 300 _ _ _ HB.out HVB.out (keyBs zs ++ la) _ H3.out ?c8).mono ?_)
      case c8 =>
        have := HL.out
        simp only [List.length_append] at this ⊢
        omega
      rintro e w4 ⟨rfl, h4⟩
      have H4 := Held.mk h4
      clear h4 y5 y6 y7 x0
      have y1 : w4.cell? ⟨w0.heap.size, 1, none⟩ = some (.slice A2 nc cap2) := (Lib.cell_of_heap H4.out.box 1).trans rfl
      have hbl2 : bs.length = 2 * nc := HBL.out
      have HTL := Held.mk (fun (i : Nat) => (show (bs.take i).flatten.length ≤ bs.flatten.length by
        conv => rhs; rw [← List.take_append_drop i bs, List.flatten_append]
        simp))
      have HTK := Held.mk (fun (i : Nat) (h : i < bs.length) => (show (bs.take (i + 1)).flatten = (bs.take i).flatten ++ bs.getD i [] by
        rw [List.take_add_one, List.flatten_append]
        simp [h]))
      have hnc : nc ≤ 140737488355328 := by
        have h1 := HL.out
        simp only [List.length_append] at h1
        have h2 : ∀ (l : List (List UInt8)), (∀ x ∈ l, 1 ≤ x.length) → l.length ≤ l.flatten.length := fun l => by
          induction l with
          | nil => simp
          | cons a l ih =>
            intro h
            have h3 := h a (by simp)
            have h4 := ih fun x hx => h x (by simp [hx])
            rw [List.flatten_cons, List.length_append, List.length_cons]
            omega
        have h3 := h2 bs (fun x hx => by
          obtain ⟨i, hi, rfl⟩ := List.getElem_of_mem hx
          obtain ⟨_, _, _, _, _, _, _, _, _, _, _, _, _, e, _⟩ := putL_some (HBS.out i (by omega))
          rw [List.getD_eq_getElem?_getD, List.getElem?_eq_getElem hi] at e
          simp only [Option.getD_some] at e
          rw [e]
          simp [keyBs]
          omega)
        omega
      have HE : Held (∀ i, i < nc → ∃ y k' n' l' c' A' k3 n3 l3 c3 A3, A2 = some y ∧ y.spot = none ∧ RVs c H w0 ((cs.drop (2 * i * 3)).take 3) [.int .i64 (k' : Nat), .int .i64 (n' : Nat), .slice A' l' c'] ∧ RVs c H w0 ((cs.drop ((2 * i + 1) * 3)).take 3) [.int .i64 (k3 : Nat), .int .i64 (n3 : Nat), .slice A3 l3 c3] ∧
          w0.cell? ⟨y.block, y.off + i * 6, none⟩ = some (.int .i64 (k' : Nat)) ∧ w0.cell? ⟨y.block, y.off + i * 6 + 1, none⟩ = some (.int .i64 (n' : Nat)) ∧ w0.cell? ⟨y.block, y.off + i * 6 + 2, none⟩ = some (.slice A' l' c') ∧
          w0.cell? ⟨y.block, y.off + i * 6 + 3, none⟩ = some (.int .i64 (k3 : Nat)) ∧ w0.cell? ⟨y.block, y.off + i * 6 + 4, none⟩ = some (.int .i64 (n3 : Nat)) ∧ w0.cell? ⟨y.block, y.off + i * 6 + 5, none⟩ = some (.slice A3 l3 c3)) := ⟨fun i hi => by
        cases hA : A2 with
        | none => have := (HC2.out.1 hA).1; omega
        | some y =>
          obtain ⟨hsp, hrv⟩ := HC2.out.2 y hA
          obtain ⟨us, hu, hr⟩ := rvat_rows hrv
          have g1 := RVs_take (RVs_drop hu (2 * i * 3)) 3
          have g2 := RVs_take (RVs_drop hu ((2 * i + 1) * 3)) 3
          obtain ⟨k', n', l', c', A', e1⟩ := putL_vals (HBS.out (2 * i) (by omega)) g1
          obtain ⟨k3, n3, l3, c3, A3, e2⟩ := putL_vals (HBS.out (2 * i + 1) (by omega)) g2
          have at1 : ∀ j v, [Value.int .i64 (k' : Nat), .int .i64 (n' : Nat), .slice A' l' c'][j]? = some v → us[2 * i * 3 + j]? = some v := fun j v hj => by
            rw [← e1, List.getElem?_take] at hj
            split at hj
            · rw [List.getElem?_drop] at hj; exact hj
            · cases hj
          have at2 : ∀ j v, [Value.int .i64 (k3 : Nat), .int .i64 (n3 : Nat), .slice A3 l3 c3][j]? = some v → us[(2 * i + 1) * 3 + j]? = some v := fun j v hj => by
            rw [← e2, List.getElem?_take] at hj
            split at hj
            · rw [List.getElem?_drop] at hj; exact hj
            · cases hj
          refine ⟨y, k', n', l', c', A', k3, n3, l3, c3, A3, rfl, hsp (by omega), by rw [← e1]; exact g1, by rw [← e2]; exact g2, ?_, ?_, ?_, ?_, ?_, ?_⟩
          · have := hr _ _ (at1 0 _ rfl); rwa [show y.off + (2 * i * 3 + 0) = y.off + i * 6 by omega] at this
          · have := hr _ _ (at1 1 _ rfl); rwa [show y.off + (2 * i * 3 + 1) = y.off + i * 6 + 1 by omega] at this
          · have := hr _ _ (at1 2 _ rfl); rwa [show y.off + (2 * i * 3 + 2) = y.off + i * 6 + 2 by omega] at this
          · have := hr _ _ (at2 0 _ rfl); rwa [show y.off + ((2 * i + 1) * 3 + 0) = y.off + i * 6 + 3 by omega] at this
          · have := hr _ _ (at2 1 _ rfl); rwa [show y.off + ((2 * i + 1) * 3 + 1) = y.off + i * 6 + 4 by omega] at this
          · have := hr _ _ (at2 2 _ rfl); rwa [show y.off + ((2 * i + 1) * 3 + 2) = y.off + i * 6 + 5 by omega] at this⟩
      go_wp2
      go_loopw [23] (fun v23 wr => ∃ i : Nat, v23 = .int .i64 (i : Int) ∧ i ≤ nc ∧ Held (∃ xb xo, PutIn w0.heap.size w0 (w0.heap.size + 1) w2.heap.size xb xo (keyBs zs ++ la ++ lb ++ (bs.take (2 * i)).flatten) wr)) (fun v23 _ => nc - (intOf v23).toNat)
      case atStart => exact ⟨0, rfl, Nat.zero_le _, ⟨_, _, by simpa using H4.out⟩⟩
      case round =>
        obtain ⟨i, rfl, hi, HR0⟩ := hrel
        obtain ⟨xb, xo2, HR1⟩ := HR0.out
        have HR := Held.mk HR1
        clear HR0 HR1
        by_cases hlt : i < nc
        · have hltb : decide ((i : Int) < (nc : Int)) = true := by simpa using hlt
          obtain ⟨⟨yb, yo, ysp⟩, k', n', l', c', A', k3, n3, l3, c3, A3, hA, hsp, hrv1, hrv2, hc0, hc1, hc2, hc3, hc4, hc5⟩ := HE.out i hlt
          simp only at hsp hc0 hc1 hc2 hc3 hc4 hc5
          subst hA hsp
          have HRV1 := Held.mk hrv1
          have HRV2 := Held.mk hrv2
          have x0 := (HR.out.below.cell (p := ⟨yb, yo + i * 6, none⟩) (by exact cell_lt hc0)).trans hc0
          have x1 := (HR.out.below.cell (p := ⟨yb, yo + i * 6 + 1, none⟩) (by exact cell_lt hc1)).trans hc1
          have x2 := (HR.out.below.cell (p := ⟨yb, yo + i * 6 + 2, none⟩) (by exact cell_lt hc2)).trans hc2
          have x3 := (HR.out.below.cell (p := ⟨yb, yo + i * 6 + 3, none⟩) (by exact cell_lt hc3)).trans hc3
          have x4 := (HR.out.below.cell (p := ⟨yb, yo + i * 6 + 4, none⟩) (by exact cell_lt hc4)).trans hc4
          have x5 := (HR.out.below.cell (p := ⟨yb, yo + i * 6 + 5, none⟩) (by exact cell_lt hc5)).trans hc5
          have hnat : ((i : Int)).toNat = i := Int.toNat_natCast i
          clear hrv1 hrv2 hc0 hc1 hc2 hc3 hc4 hc5
          have hq := HR.out.put.lt
          have hqn : ¬ w2.heap.size = wr.heap.size := by omega
          have hbn : w0.heap.size + 1 < wr.heap.size := HR.out.bld.elim (fun h => h.lt) fun h => h.lt
          have xq : wr.cell? ⟨w2.heap.size, 0, none⟩ = some (.func (.func 255) #[] #[.pointer (some ⟨w0.heap.size + 1, 0, none⟩), .pointer (some ⟨w2.heap.size, 0, none⟩)]) := (Lib.cell_of_heap HR.out.put 0).trans rfl
          have hwb : w0.heap.size ≤ wr.heap.size := HR.out.below.size
          have HP5 := Held.mk (show PutIn w0.heap.size w0 (w0.heap.size + 1) w2.heap.size wr.heap.size (.cells #[.int .i64 (k' : Int), .int .i64 (n' : Int), .slice A' l' c', .int .i64 (k3 : Int), .int .i64 (n3 : Int), .slice A3 l3 c3] 170) (keyBs zs ++ la ++ lb ++ (bs.take (2 * i)).flatten) (wr.alloc (.cells #[.int .i64 (k' : Int), .int .i64 (n' : Int), .slice A' l' c', .int .i64 (k3 : Int), .int .i64 (n3 : Int), .slice A3 l3 c3] 170)) from by
            have hl := HR.out.later hwb ((Below.refl _ wr).alloc (Nat.le_refl _) (.cells #[.int .i64 (k' : Int), .int .i64 (n' : Int), .slice A' l' c', .int .i64 (k3 : Int), .int .i64 (n3 : Int), .slice A3 l3 c3] 170))
            exact ⟨by rw [alloc_heap, Array.getElem?_push, if_pos rfl], by omega, fun cur fr hx => by simp at hx, hl.below, hl.bld, hl.put, hl.ne⟩)
          go_wp2_with (go_at_call 255; refine (put_ok h0 _ _ _ _ 300 _ _ [.int .i64 (k' : Int), .int .i64 (n' : Int), .slice A' l' c'] (HBS.out (2 * i) (by omega)) HRV1.out _ _ HP5.out ?c9).mono ?_)
          case c9 =>
            have h1 := HTK.out (2 * i) (by omega)
            have h2 := HTL.out (2 * i + 1)
            have h3 := HL.out
            rw [h1] at h2
            simp only [List.length_append] at h2 h3 ⊢
            omega
          rintro e w5 ⟨rfl, h5⟩
          rw [List.append_assoc, ← HTK.out (2 * i) (by omega)] at h5
          have H5 := Held.mk h5
          clear h5 x0 x1 x2 x3 x4 x5 xq
          have xq5 : w5.cell? ⟨w2.heap.size, 0, none⟩ = some (.func (.func 255) #[] #[.pointer (some ⟨w0.heap.size + 1, 0, none⟩), .pointer (some ⟨w2.heap.size, 0, none⟩)]) := (Lib.cell_of_heap H5.out.put 0).trans rfl
          have z3 : w5.cell? ⟨wr.heap.size, 3, none⟩ = some (.int .i64 (k3 : Int)) := (Lib.cell_of_heap H5.out.box 3).trans rfl
          have z4 : w5.cell? ⟨wr.heap.size, 4, none⟩ = some (.int .i64 (n3 : Int)) := (Lib.cell_of_heap H5.out.box 4).trans rfl
          have z5 : w5.cell? ⟨wr.heap.size, 5, none⟩ = some (.slice A3 l3 c3) := (Lib.cell_of_heap H5.out.box 5).trans rfl
          go_wp2_with (go_at_call 255; refine (put_ok h0 _ _ _ _ 300 _ _ [.int .i64 (k3 : Int), .int .i64 (n3 : Int), .slice A3 l3 c3] (HBS.out (2 * i + 1) (by omega)) HRV2.out _ _ H5.out ?c10).mono ?_)
          case c10 =>
            have h1 := HTK.out (2 * i + 1) (by omega)
            have h2 := HTL.out (2 * i + 1 + 1)
            have h3 := HL.out
            rw [h1] at h2
            simp only [List.length_append] at h2 h3 ⊢
            omega
          rintro e w6 ⟨rfl, h6⟩
          rw [List.append_assoc, ← HTK.out (2 * i + 1) (by omega)] at h6
          have H6 := Held.mk h6
          clear h6
          go_wp2
          go_roundw
          case rel => exact ⟨i + 1, by go_num, by omega, ⟨_, _, H6.out⟩⟩
          case measure => simp [intOf]; omega
        · have hltb : decide ((i : Int) < (nc : Int)) = false := by simpa using hlt
          have hin : i = nc := by omega
          subst hin
          have ht : bs.take (2 * i) = bs := by rw [← HBL.out]; exact List.take_length
          rw [ht, List.append_assoc, List.append_assoc] at HR
          go_wp2_with (go_at_call 254; refine (Tryz.Builder_String_any w0.heap.size (w0.heap.size + 1) _ _ HR.out.bld HR.out.below.size).mono ?_)
          rintro e w7 ⟨rfl, h7⟩
          have H7 := Held.mk (HR.out.below.trans h7)
          clear h7
          go_wp2
          go_ret
          exact ⟨rfl, H7.out⟩
    · cases hx
  · cases hx
end Go.Proofs
