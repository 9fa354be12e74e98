/- Contracts of functions that the law reaches, each a walk through its code. No condition beyond each theorem's own hypotheses. -/
import Derived.Test.YtlfopemghafboaaDh4
import Derived.WalkSpells
import Derived.Handy
import Derived.StillTailTactics
import Derived.IntWalk
namespace Go.Proofs.Ytlfopemghafboaa.D
open Go.RowKit Go.Proofs.YtlfopemghafboaaW.PrintWords Go.Proofs.YtlfopemghafboaaW.PrintLast Go.Proofs.YtlfopemghafboaaW.PrintMore
set_option linter.unusedVariables false
set_option linter.unusedSimpArgs false

def ints (xs : List Int) : Array Value := (xs.map fun x => Value.int .i64 x).toArray
def boolsA (xs : List Bool) : Array Value := (xs.map fun x => Value.bool x).toArray
/-- The state of the roads in memory: a block with four slices; three rows of n cells. -/
structure Roads (w0 W : World) (g b1 b2 b3 n : Nat) (A : Option Addr) (nl c : Nat) (sum : List Int) (has : List Bool) (last : List Int) : Prop where
  blk : W.heap[g]? = some (.cells #[.slice A nl c, .slice (some ⟨b1, 0, none⟩) n n, .slice (some ⟨b2, 0, none⟩) n n, .slice (some ⟨b3, 0, none⟩) n n] 121 (0, 0))
  sums : W.heap[b1]? = some (.cells (ints sum) 3 (0, 0))
  hass : W.heap[b2]? = some (.cells (boolsA has) 4 (0, 0))
  lasts : W.heap[b3]? = some (.cells (ints last) 3 (0, 0))
  ls : sum.length = n
  lh : has.length = n
  ll : last.length = n
  ne : b1 ≠ b3
  g0 : w0.heap.size ≤ g
  g1 : w0.heap.size ≤ b1
  g2 : w0.heap.size ≤ b2
  g3 : w0.heap.size ≤ b3
  bel : Below w0.heap.size w0 W
section
variable {w0 W W1 : World} {g b1 b2 b3 n : Nat} {A : Option Addr} {nl c : Nat} {sum : List Int} {has : List Bool} {last : List Int}
theorem Roads.below (h : Roads w0 W g b1 b2 b3 n A nl c sum has last) (hb : Below W.heap.size W W1) : Roads w0 W1 g b1 b2 b3 n A nl c sum has last :=
  ⟨blk_below h.blk hb, blk_below h.sums hb, blk_below h.hass hb, blk_below h.lasts hb, h.ls, h.lh, h.ll, h.ne, h.g0, h.g1, h.g2, h.g3, below_step h.bel hb⟩
theorem Roads.sum_at (h : Roads w0 W g b1 b2 b3 n A nl c sum has last) (i : Int) (h0 : 0 ≤ i) (h1 : i < n) : W.cell? ⟨b1, i.toNat, none⟩ = some (.int .i64 (rd sum i)) := by
  rw [blk_cell h.sums]
  have : i.toNat < sum.length := by have := h.ls; omega
  simp [ints, rd, List.getD_eq_getElem?_getD, List.getElem?_eq_getElem this]
theorem Roads.last_at (h : Roads w0 W g b1 b2 b3 n A nl c sum has last) (i : Int) (h0 : 0 ≤ i) (h1 : i < n) : W.cell? ⟨b3, i.toNat, none⟩ = some (.int .i64 (rd last i)) := by
  rw [blk_cell h.lasts]
  have : i.toNat < last.length := by have := h.ll; omega
  simp [ints, rd, List.getD_eq_getElem?_getD, List.getElem?_eq_getElem this]
theorem Roads.has_at (h : Roads w0 W g b1 b2 b3 n A nl c sum has last) (i : Int) (h0 : 0 ≤ i) (h1 : i < n) : W.cell? ⟨b2, i.toNat, none⟩ = some (.bool (has.getD i.toNat false)) := by
  rw [blk_cell h.hass]
  have : i.toNat < has.length := by have := h.lh; omega
  simp [boolsA, List.getD_eq_getElem?_getD, List.getElem?_eq_getElem this]
theorem Roads.f0 (h : Roads w0 W g b1 b2 b3 n A nl c sum has last) : W.cell? ⟨g, 0, none⟩ = some (.slice A nl c) := (blk_cell h.blk 0).trans rfl
theorem Roads.f1 (h : Roads w0 W g b1 b2 b3 n A nl c sum has last) : W.cell? ⟨g, 1, none⟩ = some (.slice (some ⟨b1, 0, none⟩) n n) := (blk_cell h.blk 1).trans rfl
theorem Roads.f2 (h : Roads w0 W g b1 b2 b3 n A nl c sum has last) : W.cell? ⟨g, 2, none⟩ = some (.slice (some ⟨b2, 0, none⟩) n n) := (blk_cell h.blk 2).trans rfl
theorem Roads.f3 (h : Roads w0 W g b1 b2 b3 n A nl c sum has last) : W.cell? ⟨g, 3, none⟩ = some (.slice (some ⟨b3, 0, none⟩) n n) := (blk_cell h.blk 3).trans rfl
theorem Roads.set_sum (h : Roads w0 W g b1 b2 b3 n A nl c sum has last) (i : Nat) (v : Int) : Roads w0 (W.setCell ⟨b1, i, none⟩ (.int .i64 v)) g b1 b2 b3 n A nl c (sum.set i v) has last :=
  ⟨blk_far h.blk (blk_ne h.blk h.sums (by decide)) _, by rw [blk_put h.sums i (.int .i64 v) rfl]; simp [ints, List.map_set], blk_far h.hass (blk_ne h.hass h.sums (by decide)) _, blk_far h.lasts (Ne.symm h.ne) _, by simpa using h.ls, h.lh, h.ll, h.ne, h.g0, h.g1, h.g2, h.g3, below_set h.bel h.g1⟩
theorem Roads.set_last (h : Roads w0 W g b1 b2 b3 n A nl c sum has last) (i : Nat) (v : Int) : Roads w0 (W.setCell ⟨b3, i, none⟩ (.int .i64 v)) g b1 b2 b3 n A nl c sum has (last.set i v) :=
  ⟨blk_far h.blk (blk_ne h.blk h.lasts (by decide)) _, blk_far h.sums h.ne _, blk_far h.hass (blk_ne h.hass h.lasts (by decide)) _, by rw [blk_put h.lasts i (.int .i64 v) rfl]; simp [ints, List.map_set], h.ls, h.lh, by simpa using h.ll, h.ne, h.g0, h.g1, h.g2, h.g3, below_set h.bel h.g3⟩
theorem Roads.set_has (h : Roads w0 W g b1 b2 b3 n A nl c sum has last) (i : Nat) (v : Bool) : Roads w0 (W.setCell ⟨b2, i, none⟩ (.bool v)) g b1 b2 b3 n A nl c sum (has.set i v) last :=
  ⟨blk_far h.blk (blk_ne h.blk h.hass (by decide)) _, blk_far h.sums (blk_ne h.sums h.hass (by decide)) _, by rw [blk_put h.hass i (.bool v) rfl]; simp [boolsA, List.map_set], blk_far h.lasts (blk_ne h.lasts h.hass (by decide)) _, h.ls, by simpa using h.lh, h.ll, h.ne, h.g0, h.g1, h.g2, h.g3, below_set h.bel h.g2⟩
end
structure RS where
  sum : List Int
  has : List Bool
  last : List Int
  out : Int
/-- One bind relaxed. -/
def rstep (st : RS) (i : Nat) (b : S27) : RS :=
  if st.has.getD b.f0.toNat false = true then
    if st.has.getD b.f1.toNat false = false ∨ wrap64 (rd st.sum b.f0 + b.f2) < rd st.sum b.f1 then
      ⟨st.sum.set b.f1.toNat (wrap64 (rd st.sum b.f0 + b.f2)), st.has.set b.f1.toNat true, st.last.set b.f1.toNat i, b.f1⟩
    else st
  else st
/-- The first k binds relaxed. -/
def rloop (l : List S27) (st : RS) : Nat → RS
  | 0 => st
  | k + 1 => rstep (rloop l st k) k (rd_T27 l k)

set_option maxHeartbeats 3200000 in
set_option maxRecDepth 100000 in
theorem relax_any (g b1 b2 b3 n : Nat) (A : Option Addr) (c : Nat) (l : List S27) (sum : List Int) (has : List Bool) (last : List Int) (w0 w : World) (hw : Below w0.heap.size w0 w)
    (hr : Kd.C k27 w0 A l.length l) (hl : l.length ≤ 1000000) (hn : n ≤ 100) (hv : ∀ i : Nat, i < l.length → (0 ≤ (rd_T27 l i).f0 ∧ (rd_T27 l i).f0 < n) ∧ (0 ≤ (rd_T27 l i).f1 ∧ (rd_T27 l i).f1 < n))
    (hR : Roads w0 w g b1 b2 b3 n A l.length c sum has last) :
    Calls Try.prog 94 #[.pointer (some ⟨g, 0, none⟩)] w fun e w' => e = .returned (.int .i64 (rloop l ⟨sum, has, last, -1⟩ l.length).out) ∧ Roads w0 w' g b1 b2 b3 n A l.length c (rloop l ⟨sum, has, last, -1⟩ l.length).sum (rloop l ⟨sum, has, last, -1⟩ l.length).has (rloop l ⟨sum, has, last, -1⟩ l.length).last := by
  have HC := Aside0.mk hr
  have HV := Aside0.mk hv
  have HR := Aside0.mk hR
  have f0 := hR.f0
  clear hr hv hR hw
  go_enter Try.func94, Try.ntmps94
  go_wp2_with fail
  clear f0
  go_loopw [3, 12] (fun v3 v wr => ∃ j : Nat, v = .int .i64 j ∧ j ≤ l.length ∧ v3 = .int .i64 (rloop l ⟨sum, has, last, -1⟩ j).out ∧ Aside0 (Roads w0 wr g b1 b2 b3 n A l.length c (rloop l ⟨sum, has, last, -1⟩ j).sum (rloop l ⟨sum, has, last, -1⟩ j).has (rloop l ⟨sum, has, last, -1⟩ j).last)) (fun _ v _ => l.length - (intOf v).toNat)
  case atStart => exact ⟨0, rfl, by omega, rfl, HR⟩
  case round =>
    clear HR
    obtain ⟨j, rfl, hj, rfl, HR⟩ := hrel
    by_cases hlt : j < l.length
    · have hltb : decide ((j : Int) < (l.length : Int)) = true := by simpa using hlt
      have HS := Aside0.mk (show rloop l ⟨sum, has, last, -1⟩ (j + 1) = rstep (rloop l ⟨sum, has, last, -1⟩ j) j (rd_T27 l j) from rfl)
      obtain ⟨⟨i0, i1⟩, ⟨i2, i3⟩⟩ := HV.out j hlt
      obtain ⟨_, e1, y0, y1, y2⟩ := at_T27 HC.out (j : Int) (by omega) (by omega)
      cases e1
      replace y0 := (HR.out.bel.cell (World.block_lt_of_cell? w0 _ y0)).trans y0
      replace y1 := (HR.out.bel.cell (World.block_lt_of_cell? w0 _ y1)).trans y1
      replace y2 := (HR.out.bel.cell (World.block_lt_of_cell? w0 _ y2)).trans y2
      simp only [Int.toNat_natCast] at y0 y1 y2
      generalize rd_T27 l (j : Int) = b at y0 y1 y2 HS i0 i1 i2 i3
      generalize rloop l ⟨sum, has, last, -1⟩ j = st at HR HS ⊢
      obtain ⟨bf, bt, bm⟩ := b
      obtain ⟨ss, hs, la, ou⟩ := st
      simp only at y0 y1 y2 i0 i1 i2 i3
      have HR1 := Aside0.mk (HR.out.below (below_alloc (Below.refl _ wr) (.cells #[.int .i64 bf, .int .i64 bt, .int .i64 bm] 27)))
      have BX := Aside0.mk (blk_new wr (.cells #[.int .i64 bf, .int .i64 bt, .int .i64 bm] 27))
      go_wp2_with fail
      have R1 := HR1.out
      have B1 := BX.out
      clear HR1 BX HR y0 y1 y2
      generalize wr.alloc (.cells #[.int .i64 bf, .int .i64 bt, .int .i64 bm] 27) = V at R1 B1 ⊢
      generalize wr.heap.size = gb at B1 ⊢
      have f1 := R1.f1
      have f2 := R1.f2
      have c0 : V.cell? ⟨gb, 0, none⟩ = some (.int .i64 bf) := (blk_cell B1 0).trans rfl
      have xh := R1.has_at bf i0 i1
      cases hbf : hs.getD bf.toNat false
      · rw [hbf] at xh
        have hst : rstep ⟨ss, hs, la, ou⟩ j ⟨bf, bt, bm⟩ = ⟨ss, hs, la, ou⟩ := by unfold rstep; rw [if_neg (show ¬ (hs.getD bf.toNat false = true) by rw [hbf]; decide)]
        have HST := Aside0.mk hst
        have HR1 := Aside0.mk R1
        clear R1 hst hbf B1 f1
        go_quiet (fail)
        go_wp2_with fail
        go_roundw
        case rel => exact ⟨j + 1, by go_num, by omega, by rw [HS.out, HST.out], ⟨by rw [HS.out, HST.out]; exact HR1.out.below (pw_below_drewN (Below.refl _ V) _)⟩⟩
        case measure => simp [intOf]; omega
      · rw [hbf] at xh
        have HBF := Aside0.mk hbf
        have HR1 := Aside0.mk R1
        have HB1 := Aside0.mk B1
        clear R1 hbf B1 f1
        go_quiet (fail)
        have R2 := HR1.out.below (pw_below_drewN (Below.refl _ V) nq)
        have BV1 := blk_drewN HB1.out nq
        go_wp2_with fail
        generalize V.drewN nq = V1 at R2 BV1 ⊢
        clear f2 c0 xh HR1 HB1
        have f1 := R2.f1
        have c0 : V1.cell? ⟨gb, 0, none⟩ = some (.int .i64 bf) := (blk_cell BV1 0).trans rfl
        have c2 : V1.cell? ⟨gb, 2, none⟩ = some (.int .i64 bm) := (blk_cell BV1 2).trans rfl
        have xs := R2.sum_at bf i0 i1
        go_quiet (fail)
        have R3 := R2.below (pw_below_drewN (Below.refl _ V1) nq)
        have BV2 := blk_drewN BV1 nq
        go_wp2_with fail
        generalize V1.drewN nq = V2 at R3 BV2 ⊢
        clear f1 c0 c2 xs R2 BV1
        have HNW : Aside0 (∃ nw, nw = wrap64 (rd ss bf + bm)) := ⟨_, rfl⟩
        obtain ⟨nw, hnw⟩ := HNW.out
        rw [← hnw]
        clear HNW
        have HNW := Aside0.mk hnw
        clear hnw
        have f2 := R3.f2
        have c1 : V2.cell? ⟨gb, 1, none⟩ = some (.int .i64 bt) := (blk_cell BV2 1).trans rfl
        have xh := R3.has_at bt i2 i3
        cases hbt : hs.getD bt.toNat false
        · rw [hbt] at xh
          have hst : rstep ⟨ss, hs, la, ou⟩ j ⟨bf, bt, bm⟩ = ⟨ss.set bt.toNat nw, hs.set bt.toNat true, la.set bt.toNat (j : Int), bt⟩ := by
            unfold rstep
            rw [if_pos (show hs.getD bf.toNat false = true from HBF.out)]
            simp only
            rw [← HNW.out, if_pos (Or.inl hbt)]
          have HST := Aside0.mk hst
          replace R3 := Aside0.mk R3
          replace BV2 := Aside0.mk BV2
          clear hst hbt
          go_quiet (fail)
          have R4 := R3.out.below (pw_below_drewN (Below.refl _ V2) nq)
          have B4 := blk_drewN BV2.out nq
          go_wp2_with fail
          generalize V2.drewN nq = V3 at R4 B4 ⊢
          clear c1 R3 BV2 f2 xh
          have Q0 := R4.below (below_drew1 (Below.refl _ V3))
          have B0 := blk_drew B4
          clear R4 B4
          refine start_ (n := 26) (S := fun w' => w'.cell? ⟨g, 1, none⟩ = some (.slice (some ⟨b1, 0, none⟩) n n) ∧ w'.cell? ⟨g, 2, none⟩ = some (.slice (some ⟨b2, 0, none⟩) n n) ∧ w'.cell? ⟨g, 3, none⟩ = some (.slice (some ⟨b3, 0, none⟩) n n) ∧ w'.cell? ⟨gb, 1, none⟩ = some (.int .i64 bt)) (ds := []) #[false, false, false, false, false, false, false, false, false, false, false, false, false, false, false, false, false, false, false, false, false, false, false, false, false, false] (by kernel_rfl) rfl rfl ⟨Q0.f1, Q0.f2, Q0.f3, (blk_cell B0 1).trans rfl⟩ (fun hHeld => ?_)
          generalize V3.drew = W0 at *
          refine pure_ (i := 0) (N := some 58) (v := ?_) (a' := ?_) #[true, false, false, false, false, false, false, false, false, false, false, false, false, false, false, false, false, false, false, false, false, false, false, false, false, false] rfl rfl (by kernel_rfl) (fun _ _ _ h => h) (Or.inl ⟨by rfl, ?_⟩) ?_ ?_
          rotate_left
          · intro w'
            go_simp
            with_reducible rfl
          rotate_left
          · simp only [Act.put, List.setIfInBounds_toArray, List.set_cons_zero, List.set_cons_succ, i64_w, i32_w]
            rfl
          refine pure_ (i := 1) (N := some 59) (v := ?_) (a' := ?_) #[true, true, false, false, false, false, false, false, false, false, false, false, false, false, false, false, false, false, false, false, false, false, false, false, false, false] rfl rfl (by kernel_rfl) (fun _ _ _ h => h) (Or.inl ⟨by rfl, ?_⟩) ?_ ?_
          rotate_left
          · intro w'
            go_simp
            with_reducible rfl
          rotate_left
          · simp only [Act.put, List.setIfInBounds_toArray, List.set_cons_zero, List.set_cons_succ, i64_w, i32_w]
            rfl
          refine pure_ (i := 2) (N := some 60) (v := ?_) (a' := ?_) #[true, true, true, false, false, false, false, false, false, false, false, false, false, false, false, false, false, false, false, false, false, false, false, false, false, false] rfl rfl (by kernel_rfl) (fun _ _ _ h => h) (Or.inl ⟨by rfl, ?_⟩) ?_ ?_
          rotate_left
          · intro w'
            go_simp
            with_reducible rfl
          rotate_left
          · simp only [Act.put, List.setIfInBounds_toArray, List.set_cons_zero, List.set_cons_succ, i64_w, i32_w]
            rfl
          refine pure_ (i := 4) (N := some 62) (v := ?_) (a' := ?_) #[true, true, true, false, true, false, false, false, false, false, false, false, false, false, false, false, false, false, false, false, false, false, false, false, false, false] rfl rfl (by kernel_rfl) (fun _ _ _ h => h) (Or.inl ⟨by rfl, ?_⟩) ?_ ?_
          rotate_left
          · intro w'
            go_simp
            with_reducible rfl
          rotate_left
          · simp only [Act.put, List.setIfInBounds_toArray, List.set_cons_zero, List.set_cons_succ, i64_w, i32_w]
            rfl
          refine pure_ (i := 6) (N := some 64) (v := ?_) (a' := ?_) #[true, true, true, false, true, false, true, false, false, false, false, false, false, false, false, false, false, false, false, false, false, false, false, false, false, false] rfl rfl (by kernel_rfl) (fun _ _ _ h => h) (Or.inl ⟨by rfl, ?_⟩) ?_ ?_
          rotate_left
          · intro w'
            go_simp
            with_reducible rfl
          rotate_left
          · simp only [Act.put, List.setIfInBounds_toArray, List.set_cons_zero, List.set_cons_succ, i64_w, i32_w]
            rfl
          refine pure_ (i := 7) (N := some 65) (v := ?_) (a' := ?_) #[true, true, true, false, true, false, true, true, false, false, false, false, false, false, false, false, false, false, false, false, false, false, false, false, false, false] rfl rfl (by kernel_rfl) (fun _ _ _ h => h) (Or.inl ⟨by rfl, ?_⟩) ?_ ?_
          rotate_left
          · intro w'
            go_simp
            with_reducible rfl
          rotate_left
          · simp only [Act.put, List.setIfInBounds_toArray, List.set_cons_zero, List.set_cons_succ, i64_w, i32_w]
            rfl
          refine pure_ (i := 8) (N := some 66) (v := ?_) (a' := ?_) #[true, true, true, false, true, false, true, true, true, false, false, false, false, false, false, false, false, false, false, false, false, false, false, false, false, false] rfl rfl (by kernel_rfl) (fun _ _ _ h => h) (Or.inl ⟨by rfl, ?_⟩) ?_ ?_
          rotate_left
          · intro w'
            go_simp
            with_reducible rfl
          rotate_left
          · simp only [Act.put, List.setIfInBounds_toArray, List.set_cons_zero, List.set_cons_succ, i64_w, i32_w]
            rfl
          refine pure_ (i := 10) (N := some 68) (v := ?_) (a' := ?_) #[true, true, true, false, true, false, true, true, true, false, true, false, false, false, false, false, false, false, false, false, false, false, false, false, false, false] rfl rfl (by kernel_rfl) (fun _ _ _ h => h) (Or.inl ⟨by rfl, ?_⟩) ?_ ?_
          rotate_left
          · intro w'
            go_simp
            with_reducible rfl
          rotate_left
          · simp only [Act.put, List.setIfInBounds_toArray, List.set_cons_zero, List.set_cons_succ, i64_w, i32_w]
            rfl
          refine pure_ (i := 12) (N := some 70) (v := ?_) (a' := ?_) #[true, true, true, false, true, false, true, true, true, false, true, false, true, false, false, false, false, false, false, false, false, false, false, false, false, false] rfl rfl (by kernel_rfl) (fun _ _ _ h => h) (Or.inl ⟨by rfl, ?_⟩) ?_ ?_
          rotate_left
          · intro w'
            go_simp
            with_reducible rfl
          rotate_left
          · simp only [Act.put, List.setIfInBounds_toArray, List.set_cons_zero, List.set_cons_succ, i64_w, i32_w]
            rfl
          refine pure_ (i := 13) (N := some 71) (v := ?_) (a' := ?_) #[true, true, true, false, true, false, true, true, true, false, true, false, true, true, false, false, false, false, false, false, false, false, false, false, false, false] rfl rfl (by kernel_rfl) (fun _ _ _ h => h) (Or.inl ⟨by rfl, ?_⟩) ?_ ?_
          rotate_left
          · intro w'
            go_simp
            with_reducible rfl
          rotate_left
          · simp only [Act.put, List.setIfInBounds_toArray, List.set_cons_zero, List.set_cons_succ, i64_w, i32_w]
            rfl
          refine pure_ (i := 14) (N := some 72) (v := ?_) (a' := ?_) #[true, true, true, false, true, false, true, true, true, false, true, false, true, true, true, false, false, false, false, false, false, false, false, false, false, false] rfl rfl (by kernel_rfl) (fun _ _ _ h => h) (Or.inl ⟨by rfl, ?_⟩) ?_ ?_
          rotate_left
          · intro w'
            go_simp
            with_reducible rfl
          rotate_left
          · simp only [Act.put, List.setIfInBounds_toArray, List.set_cons_zero, List.set_cons_succ, i64_w, i32_w]
            rfl
          refine pure_ (i := 16) (N := some 74) (v := ?_) (a' := ?_) #[true, true, true, false, true, false, true, true, true, false, true, false, true, true, true, false, true, false, false, false, false, false, false, false, false, false] rfl rfl (by kernel_rfl) (fun _ _ _ h => h) (Or.inl ⟨by rfl, ?_⟩) ?_ ?_
          rotate_left
          · intro w'
            go_simp
            with_reducible rfl
          rotate_left
          · simp only [Act.put, List.setIfInBounds_toArray, List.set_cons_zero, List.set_cons_succ, i64_w, i32_w]
            rfl
          refine pure_ (i := 18) (N := some 76) (v := ?_) (a' := ?_) #[true, true, true, false, true, false, true, true, true, false, true, false, true, true, true, false, true, false, true, false, false, false, false, false, false, false] rfl rfl (by kernel_rfl) (fun _ _ _ h => h) (Or.inl ⟨by rfl, ?_⟩) ?_ ?_
          rotate_left
          · intro w'
            go_simp
            with_reducible rfl
          rotate_left
          · simp only [Act.put, List.setIfInBounds_toArray, List.set_cons_zero, List.set_cons_succ, i64_w, i32_w]
            rfl
          refine pure_ (i := 19) (N := some 77) (v := ?_) (a' := ?_) #[true, true, true, false, true, false, true, true, true, false, true, false, true, true, true, false, true, false, true, true, false, false, false, false, false, false] rfl rfl (by kernel_rfl) (fun _ _ _ h => h) (Or.inl ⟨by rfl, ?_⟩) ?_ ?_
          rotate_left
          · intro w'
            go_simp
            with_reducible rfl
          rotate_left
          · simp only [Act.put, List.setIfInBounds_toArray, List.set_cons_zero, List.set_cons_succ, i64_w, i32_w]
            rfl
          refine take_ (i := 3) (N := some 61) (v := ?_) (a' := ?_) #[true, true, true, true, true, false, true, true, true, false, true, false, true, true, true, false, true, false, true, true, false, false, false, false, false, false] rfl rfl (by kernel_rfl) (fun _ _ _ h => h) (Or.inl ⟨by rfl, ?_⟩) hHeld ?_ ?_
          rotate_left
          · rintro w' ⟨s0, s1, s2, s3⟩
            go_simp
            with_reducible rfl
          rotate_left
          · simp only [Act.put, List.setIfInBounds_toArray, List.set_cons_zero, List.set_cons_succ, i64_w, i32_w]
            rfl
          refine take_ (i := 5) (N := some 63) (v := ?_) (a' := ?_) #[true, true, true, true, true, true, true, true, true, false, true, false, true, true, true, false, true, false, true, true, false, false, false, false, false, false] rfl rfl (by kernel_rfl) (fun _ _ _ h => h) (Or.inl ⟨by rfl, ?_⟩) hHeld ?_ ?_
          rotate_left
          · rintro w' ⟨s0, s1, s2, s3⟩
            go_simp
            with_reducible rfl
          rotate_left
          · simp only [Act.put, List.setIfInBounds_toArray, List.set_cons_zero, List.set_cons_succ, i64_w, i32_w]
            rfl
          refine take_ (i := 9) (N := some 67) (v := ?_) (a' := ?_) #[true, true, true, true, true, true, true, true, true, true, true, false, true, true, true, false, true, false, true, true, false, false, false, false, false, false] rfl rfl (by kernel_rfl) (fun _ _ _ h => h) (Or.inl ⟨by rfl, ?_⟩) hHeld ?_ ?_
          rotate_left
          · rintro w' ⟨s0, s1, s2, s3⟩
            go_simp
            with_reducible rfl
          rotate_left
          · simp only [Act.put, List.setIfInBounds_toArray, List.set_cons_zero, List.set_cons_succ, i64_w, i32_w]
            rfl
          refine take_ (i := 11) (N := some 69) (v := ?_) (a' := ?_) #[true, true, true, true, true, true, true, true, true, true, true, true, true, true, true, false, true, false, true, true, false, false, false, false, false, false] rfl rfl (by kernel_rfl) (fun _ _ _ h => h) (Or.inl ⟨by rfl, ?_⟩) hHeld ?_ ?_
          rotate_left
          · rintro w' ⟨s0, s1, s2, s3⟩
            go_simp
            with_reducible rfl
          rotate_left
          · simp only [Act.put, List.setIfInBounds_toArray, List.set_cons_zero, List.set_cons_succ, i64_w, i32_w]
            rfl
          refine take_ (i := 15) (N := some 73) (v := ?_) (a' := ?_) #[true, true, true, true, true, true, true, true, true, true, true, true, true, true, true, true, true, false, true, true, false, false, false, false, false, false] rfl rfl (by kernel_rfl) (fun _ _ _ h => h) (Or.inl ⟨by rfl, ?_⟩) hHeld ?_ ?_
          rotate_left
          · rintro w' ⟨s0, s1, s2, s3⟩
            go_simp
            with_reducible rfl
          rotate_left
          · simp only [Act.put, List.setIfInBounds_toArray, List.set_cons_zero, List.set_cons_succ, i64_w, i32_w]
            rfl
          refine pure_ (i := 20) (N := some 78) (v := ?_) (a' := ?_) #[true, true, true, true, true, true, true, true, true, true, true, true, true, true, true, true, true, false, true, true, true, false, false, false, false, false] rfl rfl (by kernel_rfl) (fun _ _ _ h => h) (Or.inl ⟨by rfl, ?_⟩) ?_ ?_
          rotate_left
          · intro w'
            go_simp
            with_reducible rfl
          rotate_left
          · simp only [Act.put, List.setIfInBounds_toArray, List.set_cons_zero, List.set_cons_succ, i64_w, i32_w]
            rfl
          refine take_ (i := 17) (N := some 75) (v := ?_) (a' := ?_) #[true, true, true, true, true, true, true, true, true, true, true, true, true, true, true, true, true, true, true, true, true, false, false, false, false, false] rfl rfl (by kernel_rfl) (fun _ _ _ h => h) (Or.inl ⟨by rfl, ?_⟩) hHeld ?_ ?_
          rotate_left
          · rintro w' ⟨s0, s1, s2, s3⟩
            go_simp
            with_reducible rfl
          rotate_left
          · simp only [Act.put, List.setIfInBounds_toArray, List.set_cons_zero, List.set_cons_succ, i64_w, i32_w]
            rfl
          refine one_ (i := 21) (N := none) #[true, true, true, true, true, true, true, true, true, true, true, true, true, true, true, true, true, true, true, true, true, true, false, false, false, false] rfl rfl (by kernel_rfl) (by decide) (fun K hK => ?_)
          have ca := Q0.has_at bt i2 i3
          have fz := blk_frozen Q0.hass bt.toNat
          refine skip_ (w1 := ?_) (by rfl) rfl ?_ ?_
          rotate_left
          · go_simp
            rfl
          have Q1 := Q0.set_has bt.toNat true
          have B1 := blk_far B0 (blk_ne B0 Q0.hass (by decide)) (p := ⟨b2, bt.toNat, none⟩) (.bool true)
          generalize W0.setCell ⟨b2, bt.toNat, none⟩ (.bool true) = W1 at Q1 B1 ⊢
          clear ca fz
          refine hK.out _ _ ⟨Q1.f1, Q1.f2, Q1.f3, (blk_cell B1 1).trans rfl⟩ (fun hHeld => ?_)
          clear hK K
          refine pure_ (i := 22) (N := some 79) (v := ?_) (a' := ?_) #[true, true, true, true, true, true, true, true, true, true, true, true, true, true, true, true, true, true, true, true, true, true, true, false, false, false] rfl rfl (by kernel_rfl) (fun _ _ _ h => h) (Or.inl ⟨by rfl, ?_⟩) ?_ ?_
          rotate_left
          · intro w'
            go_simp
            with_reducible rfl
          rotate_left
          · simp only [Act.put, List.setIfInBounds_toArray, List.set_cons_zero, List.set_cons_succ, i64_w, i32_w]
            rfl
          refine one_ (i := 23) (N := none) #[true, true, true, true, true, true, true, true, true, true, true, true, true, true, true, true, true, true, true, true, true, true, true, true, false, false] rfl rfl (by kernel_rfl) (by decide) (fun K hK => ?_)
          have ca := Q1.sum_at bt i2 i3
          have fz := blk_frozen Q1.sums bt.toNat
          refine skip_ (w1 := ?_) (by rfl) rfl ?_ ?_
          rotate_left
          · go_simp
            rfl
          have Q2 := Q1.set_sum bt.toNat nw
          have B2 := blk_far B1 (blk_ne B1 Q1.sums (by decide)) (p := ⟨b1, bt.toNat, none⟩) (.int .i64 nw)
          generalize W1.setCell ⟨b1, bt.toNat, none⟩ (.int .i64 nw) = W2 at Q2 B2 ⊢
          clear ca fz
          refine hK.out _ _ ⟨Q2.f1, Q2.f2, Q2.f3, (blk_cell B2 1).trans rfl⟩ (fun hHeld => ?_)
          clear hK K
          refine pure_ (i := 24) (N := some 80) (v := ?_) (a' := ?_) #[true, true, true, true, true, true, true, true, true, true, true, true, true, true, true, true, true, true, true, true, true, true, true, true, true, false] rfl rfl (by kernel_rfl) (fun _ _ _ h => h) (Or.inl ⟨by rfl, ?_⟩) ?_ ?_
          rotate_left
          · intro w'
            go_simp
            with_reducible rfl
          rotate_left
          · simp only [Act.put, List.setIfInBounds_toArray, List.set_cons_zero, List.set_cons_succ, i64_w, i32_w]
            rfl
          refine one_ (i := 25) (N := none) #[true, true, true, true, true, true, true, true, true, true, true, true, true, true, true, true, true, true, true, true, true, true, true, true, true, true] rfl rfl (by kernel_rfl) (by decide) (fun K hK => ?_)
          have ca := Q2.last_at bt i2 i3
          have fz := blk_frozen Q2.lasts bt.toNat
          refine skip_ (w1 := ?_) (by rfl) rfl ?_ ?_
          rotate_left
          · go_simp
            rfl
          have Q3 := Q2.set_last bt.toNat (j : Int)
          have B3 := blk_far B2 (blk_ne B2 Q2.lasts (by decide)) (p := ⟨b3, bt.toNat, none⟩) (.int .i64 (j : Int))
          generalize W2.setCell ⟨b3, bt.toNat, none⟩ (.int .i64 (j : Int)) = W3 at Q3 B3 ⊢
          clear ca fz
          refine hK.out _ _ ⟨Q3.f1, Q3.f2, Q3.f3, (blk_cell B3 1).trans rfl⟩ (fun hHeld => ?_)
          clear hK K
          refine done_ (by kernel_rfl) ?_
          have c1 : W3.cell? ⟨gb, 1, none⟩ = some (.int .i64 bt) := (blk_cell B3 1).trans rfl
          have HQ := Aside0.mk Q3
          clear Q0 Q1 Q2 Q3 B0 B1 B2 B3
          clear hHeld
          go_wp2_with fail
          go_roundw
          case rel => exact ⟨j + 1, by go_num, by omega, by rw [HS.out, HST.out], ⟨by rw [HS.out, HST.out]; exact HQ.out⟩⟩
          case measure => simp [intOf]; omega
        · rw [hbt] at xh
          have f1 := R3.f1
          have xs := R3.sum_at bt i2 i3
          by_cases hlt2 : nw < rd ss bt
          · have hlb : decide (nw < rd ss bt) = true := by simpa using hlt2
            have hst : rstep ⟨ss, hs, la, ou⟩ j ⟨bf, bt, bm⟩ = ⟨ss.set bt.toNat nw, hs.set bt.toNat true, la.set bt.toNat (j : Int), bt⟩ := by
              unfold rstep
              rw [if_pos (show hs.getD bf.toNat false = true from HBF.out)]
              simp only
              rw [← HNW.out, if_pos (Or.inr hlt2)]
            have HST := Aside0.mk hst
            replace R3 := Aside0.mk R3
            replace BV2 := Aside0.mk BV2
            clear hst hbt hlt2
            go_quiet (fail)
            have R4 := R3.out.below (pw_below_drewN (Below.refl _ V2) nq)
            have B4 := blk_drewN BV2.out nq
            go_wp2_with fail
            generalize V2.drewN nq = V3 at R4 B4 ⊢
            clear c1 R3 BV2 f1 f2 xh xs
            have Q0 := R4.below (below_drew1 (Below.refl _ V3))
            have B0 := blk_drew B4
            clear R4 B4
            refine start_ (n := 26) (S := fun w' => w'.cell? ⟨g, 1, none⟩ = some (.slice (some ⟨b1, 0, none⟩) n n) ∧ w'.cell? ⟨g, 2, none⟩ = some (.slice (some ⟨b2, 0, none⟩) n n) ∧ w'.cell? ⟨g, 3, none⟩ = some (.slice (some ⟨b3, 0, none⟩) n n) ∧ w'.cell? ⟨gb, 1, none⟩ = some (.int .i64 bt)) (ds := []) #[false, false, false, false, false, false, false, false, false, false, false, false, false, false, false, false, false, false, false, false, false, false, false, false, false, false] (by kernel_rfl) rfl rfl ⟨Q0.f1, Q0.f2, Q0.f3, (blk_cell B0 1).trans rfl⟩ (fun hHeld => ?_)
            generalize V3.drew = W0 at *
            refine pure_ (i := 0) (N := some 58) (v := ?_) (a' := ?_) #[true, false, false, false, false, false, false, false, false, false, false, false, false, false, false, false, false, false, false, false, false, false, false, false, false, false] rfl rfl (by kernel_rfl) (fun _ _ _ h => h) (Or.inl ⟨by rfl, ?_⟩) ?_ ?_
            rotate_left
            · intro w'
              go_simp
              with_reducible rfl
            rotate_left
            · simp only [Act.put, List.setIfInBounds_toArray, List.set_cons_zero, List.set_cons_succ, i64_w, i32_w]
              rfl
            refine pure_ (i := 1) (N := some 59) (v := ?_) (a' := ?_) #[true, true, false, false, false, false, false, false, false, false, false, false, false, false, false, false, false, false, false, false, false, false, false, false, false, false] rfl rfl (by kernel_rfl) (fun _ _ _ h => h) (Or.inl ⟨by rfl, ?_⟩) ?_ ?_
            rotate_left
            · intro w'
              go_simp
              with_reducible rfl
            rotate_left
            · simp only [Act.put, List.setIfInBounds_toArray, List.set_cons_zero, List.set_cons_succ, i64_w, i32_w]
              rfl
            refine pure_ (i := 2) (N := some 60) (v := ?_) (a' := ?_) #[true, true, true, false, false, false, false, false, false, false, false, false, false, false, false, false, false, false, false, false, false, false, false, false, false, false] rfl rfl (by kernel_rfl) (fun _ _ _ h => h) (Or.inl ⟨by rfl, ?_⟩) ?_ ?_
            rotate_left
            · intro w'
              go_simp
              with_reducible rfl
            rotate_left
            · simp only [Act.put, List.setIfInBounds_toArray, List.set_cons_zero, List.set_cons_succ, i64_w, i32_w]
              rfl
            refine pure_ (i := 4) (N := some 62) (v := ?_) (a' := ?_) #[true, true, true, false, true, false, false, false, false, false, false, false, false, false, false, false, false, false, false, false, false, false, false, false, false, false] rfl rfl (by kernel_rfl) (fun _ _ _ h => h) (Or.inl ⟨by rfl, ?_⟩) ?_ ?_
            rotate_left
            · intro w'
              go_simp
              with_reducible rfl
            rotate_left
            · simp only [Act.put, List.setIfInBounds_toArray, List.set_cons_zero, List.set_cons_succ, i64_w, i32_w]
              rfl
            refine pure_ (i := 6) (N := some 64) (v := ?_) (a' := ?_) #[true, true, true, false, true, false, true, false, false, false, false, false, false, false, false, false, false, false, false, false, false, false, false, false, false, false] rfl rfl (by kernel_rfl) (fun _ _ _ h => h) (Or.inl ⟨by rfl, ?_⟩) ?_ ?_
            rotate_left
            · intro w'
              go_simp
              with_reducible rfl
            rotate_left
            · simp only [Act.put, List.setIfInBounds_toArray, List.set_cons_zero, List.set_cons_succ, i64_w, i32_w]
              rfl
            refine pure_ (i := 7) (N := some 65) (v := ?_) (a' := ?_) #[true, true, true, false, true, false, true, true, false, false, false, false, false, false, false, false, false, false, false, false, false, false, false, false, false, false] rfl rfl (by kernel_rfl) (fun _ _ _ h => h) (Or.inl ⟨by rfl, ?_⟩) ?_ ?_
            rotate_left
            · intro w'
              go_simp
              with_reducible rfl
            rotate_left
            · simp only [Act.put, List.setIfInBounds_toArray, List.set_cons_zero, List.set_cons_succ, i64_w, i32_w]
              rfl
            refine pure_ (i := 8) (N := some 66) (v := ?_) (a' := ?_) #[true, true, true, false, true, false, true, true, true, false, false, false, false, false, false, false, false, false, false, false, false, false, false, false, false, false] rfl rfl (by kernel_rfl) (fun _ _ _ h => h) (Or.inl ⟨by rfl, ?_⟩) ?_ ?_
            rotate_left
            · intro w'
              go_simp
              with_reducible rfl
            rotate_left
            · simp only [Act.put, List.setIfInBounds_toArray, List.set_cons_zero, List.set_cons_succ, i64_w, i32_w]
              rfl
            refine pure_ (i := 10) (N := some 68) (v := ?_) (a' := ?_) #[true, true, true, false, true, false, true, true, true, false, true, false, false, false, false, false, false, false, false, false, false, false, false, false, false, false] rfl rfl (by kernel_rfl) (fun _ _ _ h => h) (Or.inl ⟨by rfl, ?_⟩) ?_ ?_
            rotate_left
            · intro w'
              go_simp
              with_reducible rfl
            rotate_left
            · simp only [Act.put, List.setIfInBounds_toArray, List.set_cons_zero, List.set_cons_succ, i64_w, i32_w]
              rfl
            refine pure_ (i := 12) (N := some 70) (v := ?_) (a' := ?_) #[true, true, true, false, true, false, true, true, true, false, true, false, true, false, false, false, false, false, false, false, false, false, false, false, false, false] rfl rfl (by kernel_rfl) (fun _ _ _ h => h) (Or.inl ⟨by rfl, ?_⟩) ?_ ?_
            rotate_left
            · intro w'
              go_simp
              with_reducible rfl
            rotate_left
            · simp only [Act.put, List.setIfInBounds_toArray, List.set_cons_zero, List.set_cons_succ, i64_w, i32_w]
              rfl
            refine pure_ (i := 13) (N := some 71) (v := ?_) (a' := ?_) #[true, true, true, false, true, false, true, true, true, false, true, false, true, true, false, false, false, false, false, false, false, false, false, false, false, false] rfl rfl (by kernel_rfl) (fun _ _ _ h => h) (Or.inl ⟨by rfl, ?_⟩) ?_ ?_
            rotate_left
            · intro w'
              go_simp
              with_reducible rfl
            rotate_left
            · simp only [Act.put, List.setIfInBounds_toArray, List.set_cons_zero, List.set_cons_succ, i64_w, i32_w]
              rfl
            refine pure_ (i := 14) (N := some 72) (v := ?_) (a' := ?_) #[true, true, true, false, true, false, true, true, true, false, true, false, true, true, true, false, false, false, false, false, false, false, false, false, false, false] rfl rfl (by kernel_rfl) (fun _ _ _ h => h) (Or.inl ⟨by rfl, ?_⟩) ?_ ?_
            rotate_left
            · intro w'
              go_simp
              with_reducible rfl
            rotate_left
            · simp only [Act.put, List.setIfInBounds_toArray, List.set_cons_zero, List.set_cons_succ, i64_w, i32_w]
              rfl
            refine pure_ (i := 16) (N := some 74) (v := ?_) (a' := ?_) #[true, true, true, false, true, false, true, true, true, false, true, false, true, true, true, false, true, false, false, false, false, false, false, false, false, false] rfl rfl (by kernel_rfl) (fun _ _ _ h => h) (Or.inl ⟨by rfl, ?_⟩) ?_ ?_
            rotate_left
            · intro w'
              go_simp
              with_reducible rfl
            rotate_left
            · simp only [Act.put, List.setIfInBounds_toArray, List.set_cons_zero, List.set_cons_succ, i64_w, i32_w]
              rfl
            refine pure_ (i := 18) (N := some 76) (v := ?_) (a' := ?_) #[true, true, true, false, true, false, true, true, true, false, true, false, true, true, true, false, true, false, true, false, false, false, false, false, false, false] rfl rfl (by kernel_rfl) (fun _ _ _ h => h) (Or.inl ⟨by rfl, ?_⟩) ?_ ?_
            rotate_left
            · intro w'
              go_simp
              with_reducible rfl
            rotate_left
            · simp only [Act.put, List.setIfInBounds_toArray, List.set_cons_zero, List.set_cons_succ, i64_w, i32_w]
              rfl
            refine pure_ (i := 19) (N := some 77) (v := ?_) (a' := ?_) #[true, true, true, false, true, false, true, true, true, false, true, false, true, true, true, false, true, false, true, true, false, false, false, false, false, false] rfl rfl (by kernel_rfl) (fun _ _ _ h => h) (Or.inl ⟨by rfl, ?_⟩) ?_ ?_
            rotate_left
            · intro w'
              go_simp
              with_reducible rfl
            rotate_left
            · simp only [Act.put, List.setIfInBounds_toArray, List.set_cons_zero, List.set_cons_succ, i64_w, i32_w]
              rfl
            refine take_ (i := 3) (N := some 61) (v := ?_) (a' := ?_) #[true, true, true, true, true, false, true, true, true, false, true, false, true, true, true, false, true, false, true, true, false, false, false, false, false, false] rfl rfl (by kernel_rfl) (fun _ _ _ h => h) (Or.inl ⟨by rfl, ?_⟩) hHeld ?_ ?_
            rotate_left
            · rintro w' ⟨s0, s1, s2, s3⟩
              go_simp
              with_reducible rfl
            rotate_left
            · simp only [Act.put, List.setIfInBounds_toArray, List.set_cons_zero, List.set_cons_succ, i64_w, i32_w]
              rfl
            refine take_ (i := 5) (N := some 63) (v := ?_) (a' := ?_) #[true, true, true, true, true, true, true, true, true, false, true, false, true, true, true, false, true, false, true, true, false, false, false, false, false, false] rfl rfl (by kernel_rfl) (fun _ _ _ h => h) (Or.inl ⟨by rfl, ?_⟩) hHeld ?_ ?_
            rotate_left
            · rintro w' ⟨s0, s1, s2, s3⟩
              go_simp
              with_reducible rfl
            rotate_left
            · simp only [Act.put, List.setIfInBounds_toArray, List.set_cons_zero, List.set_cons_succ, i64_w, i32_w]
              rfl
            refine take_ (i := 9) (N := some 67) (v := ?_) (a' := ?_) #[true, true, true, true, true, true, true, true, true, true, true, false, true, true, true, false, true, false, true, true, false, false, false, false, false, false] rfl rfl (by kernel_rfl) (fun _ _ _ h => h) (Or.inl ⟨by rfl, ?_⟩) hHeld ?_ ?_
            rotate_left
            · rintro w' ⟨s0, s1, s2, s3⟩
              go_simp
              with_reducible rfl
            rotate_left
            · simp only [Act.put, List.setIfInBounds_toArray, List.set_cons_zero, List.set_cons_succ, i64_w, i32_w]
              rfl
            refine take_ (i := 11) (N := some 69) (v := ?_) (a' := ?_) #[true, true, true, true, true, true, true, true, true, true, true, true, true, true, true, false, true, false, true, true, false, false, false, false, false, false] rfl rfl (by kernel_rfl) (fun _ _ _ h => h) (Or.inl ⟨by rfl, ?_⟩) hHeld ?_ ?_
            rotate_left
            · rintro w' ⟨s0, s1, s2, s3⟩
              go_simp
              with_reducible rfl
            rotate_left
            · simp only [Act.put, List.setIfInBounds_toArray, List.set_cons_zero, List.set_cons_succ, i64_w, i32_w]
              rfl
            refine take_ (i := 15) (N := some 73) (v := ?_) (a' := ?_) #[true, true, true, true, true, true, true, true, true, true, true, true, true, true, true, true, true, false, true, true, false, false, false, false, false, false] rfl rfl (by kernel_rfl) (fun _ _ _ h => h) (Or.inl ⟨by rfl, ?_⟩) hHeld ?_ ?_
            rotate_left
            · rintro w' ⟨s0, s1, s2, s3⟩
              go_simp
              with_reducible rfl
            rotate_left
            · simp only [Act.put, List.setIfInBounds_toArray, List.set_cons_zero, List.set_cons_succ, i64_w, i32_w]
              rfl
            refine pure_ (i := 20) (N := some 78) (v := ?_) (a' := ?_) #[true, true, true, true, true, true, true, true, true, true, true, true, true, true, true, true, true, false, true, true, true, false, false, false, false, false] rfl rfl (by kernel_rfl) (fun _ _ _ h => h) (Or.inl ⟨by rfl, ?_⟩) ?_ ?_
            rotate_left
            · intro w'
              go_simp
              with_reducible rfl
            rotate_left
            · simp only [Act.put, List.setIfInBounds_toArray, List.set_cons_zero, List.set_cons_succ, i64_w, i32_w]
              rfl
            refine take_ (i := 17) (N := some 75) (v := ?_) (a' := ?_) #[true, true, true, true, true, true, true, true, true, true, true, true, true, true, true, true, true, true, true, true, true, false, false, false, false, false] rfl rfl (by kernel_rfl) (fun _ _ _ h => h) (Or.inl ⟨by rfl, ?_⟩) hHeld ?_ ?_
            rotate_left
            · rintro w' ⟨s0, s1, s2, s3⟩
              go_simp
              with_reducible rfl
            rotate_left
            · simp only [Act.put, List.setIfInBounds_toArray, List.set_cons_zero, List.set_cons_succ, i64_w, i32_w]
              rfl
            refine one_ (i := 21) (N := none) #[true, true, true, true, true, true, true, true, true, true, true, true, true, true, true, true, true, true, true, true, true, true, false, false, false, false] rfl rfl (by kernel_rfl) (by decide) (fun K hK => ?_)
            have ca := Q0.has_at bt i2 i3
            have fz := blk_frozen Q0.hass bt.toNat
            refine skip_ (w1 := ?_) (by rfl) rfl ?_ ?_
            rotate_left
            · go_simp
              rfl
            have Q1 := Q0.set_has bt.toNat true
            have B1 := blk_far B0 (blk_ne B0 Q0.hass (by decide)) (p := ⟨b2, bt.toNat, none⟩) (.bool true)
            generalize W0.setCell ⟨b2, bt.toNat, none⟩ (.bool true) = W1 at Q1 B1 ⊢
            clear ca fz
            refine hK.out _ _ ⟨Q1.f1, Q1.f2, Q1.f3, (blk_cell B1 1).trans rfl⟩ (fun hHeld => ?_)
            clear hK K
            refine pure_ (i := 22) (N := some 79) (v := ?_) (a' := ?_) #[true, true, true, true, true, true, true, true, true, true, true, true, true, true, true, true, true, true, true, true, true, true, true, false, false, false] rfl rfl (by kernel_rfl) (fun _ _ _ h => h) (Or.inl ⟨by rfl, ?_⟩) ?_ ?_
            rotate_left
            · intro w'
              go_simp
              with_reducible rfl
            rotate_left
            · simp only [Act.put, List.setIfInBounds_toArray, List.set_cons_zero, List.set_cons_succ, i64_w, i32_w]
              rfl
            refine one_ (i := 23) (N := none) #[true, true, true, true, true, true, true, true, true, true, true, true, true, true, true, true, true, true, true, true, true, true, true, true, false, false] rfl rfl (by kernel_rfl) (by decide) (fun K hK => ?_)
            have ca := Q1.sum_at bt i2 i3
            have fz := blk_frozen Q1.sums bt.toNat
            refine skip_ (w1 := ?_) (by rfl) rfl ?_ ?_
            rotate_left
            · go_simp
              rfl
            have Q2 := Q1.set_sum bt.toNat nw
            have B2 := blk_far B1 (blk_ne B1 Q1.sums (by decide)) (p := ⟨b1, bt.toNat, none⟩) (.int .i64 nw)
            generalize W1.setCell ⟨b1, bt.toNat, none⟩ (.int .i64 nw) = W2 at Q2 B2 ⊢
            clear ca fz
            refine hK.out _ _ ⟨Q2.f1, Q2.f2, Q2.f3, (blk_cell B2 1).trans rfl⟩ (fun hHeld => ?_)
            clear hK K
            refine pure_ (i := 24) (N := some 80) (v := ?_) (a' := ?_) #[true, true, true, true, true, true, true, true, true, true, true, true, true, true, true, true, true, true, true, true, true, true, true, true, true, false] rfl rfl (by kernel_rfl) (fun _ _ _ h => h) (Or.inl ⟨by rfl, ?_⟩) ?_ ?_
            rotate_left
            · intro w'
              go_simp
              with_reducible rfl
            rotate_left
            · simp only [Act.put, List.setIfInBounds_toArray, List.set_cons_zero, List.set_cons_succ, i64_w, i32_w]
              rfl
            refine one_ (i := 25) (N := none) #[true, true, true, true, true, true, true, true, true, true, true, true, true, true, true, true, true, true, true, true, true, true, true, true, true, true] rfl rfl (by kernel_rfl) (by decide) (fun K hK => ?_)
            have ca := Q2.last_at bt i2 i3
            have fz := blk_frozen Q2.lasts bt.toNat
            refine skip_ (w1 := ?_) (by rfl) rfl ?_ ?_
            rotate_left
            · go_simp
              rfl
            have Q3 := Q2.set_last bt.toNat (j : Int)
            have B3 := blk_far B2 (blk_ne B2 Q2.lasts (by decide)) (p := ⟨b3, bt.toNat, none⟩) (.int .i64 (j : Int))
            generalize W2.setCell ⟨b3, bt.toNat, none⟩ (.int .i64 (j : Int)) = W3 at Q3 B3 ⊢
            clear ca fz
            refine hK.out _ _ ⟨Q3.f1, Q3.f2, Q3.f3, (blk_cell B3 1).trans rfl⟩ (fun hHeld => ?_)
            clear hK K
            refine done_ (by kernel_rfl) ?_
            have c1 : W3.cell? ⟨gb, 1, none⟩ = some (.int .i64 bt) := (blk_cell B3 1).trans rfl
            have HQ := Aside0.mk Q3
            clear Q0 Q1 Q2 Q3 B0 B1 B2 B3
            clear hHeld
            go_wp2_with fail
            go_roundw
            case rel => exact ⟨j + 1, by go_num, by omega, by rw [HS.out, HST.out], ⟨by rw [HS.out, HST.out]; exact HQ.out⟩⟩
            case measure => simp [intOf]; omega
          · have hlb : decide (nw < rd ss bt) = false := by simpa using hlt2
            have hst : rstep ⟨ss, hs, la, ou⟩ j ⟨bf, bt, bm⟩ = ⟨ss, hs, la, ou⟩ := by
              unfold rstep
              rw [if_pos (show hs.getD bf.toNat false = true from HBF.out)]
              simp only
              rw [← HNW.out, if_neg (by rintro (h | h); rw [hbt] at h; cases h; exact hlt2 h)]
            have HST := Aside0.mk hst
            replace R3 := Aside0.mk R3
            clear hst hbt hlt2 BV2
            go_quiet (fail)
            go_wp2_with fail
            go_roundw
            case rel => exact ⟨j + 1, by go_num, by omega, by rw [HS.out, HST.out], ⟨by rw [HS.out, HST.out]; exact R3.out.below (pw_below_drewN (Below.refl _ V2) _)⟩⟩
            case measure => simp [intOf]; omega
    · have hltb : decide ((j : Int) < (l.length : Int)) = false := by simpa using hlt
      have hje : j = l.length := by omega
      have HJ := Aside0.mk hje
      clear hje
      go_wp2_with fail
      go_ret
      exact ⟨by rw [← HJ.out]; rfl, by have := HR.out; rw [HJ.out] at this; exact this⟩
end Go.Proofs.Ytlfopemghafboaa.D
