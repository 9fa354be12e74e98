/- Contracts of functions that the law reaches, each a walk through its code. No condition beyond each theorem's own hypotheses. -/
import Derived.Test.YtlfopemghafboaaDh11
import Derived.WalkSpells
import Derived.Handy
import Derived.StillTailTactics
import Derived.IntWalk
import Derived.Deep.LoopGhost
import Derived.Deep.RegionWith

namespace Go.Proofs.Ytlfopemghafboaa.D
open Go.RowKit Go.Proofs.YtlfopemghafboaaW.PrintWords Go.Proofs.YtlfopemghafboaaW.PrintLast Go.Proofs.YtlfopemghafboaaW.PrintMore
set_option linter.unusedVariables false
set_option linter.unusedSimpArgs false
def backF (l : List S27) (last : List Int) (n : Nat) (a : Int) : Nat → Int → List Int → Option (List Int)
  | 0, x, acc => if x = a then some acc else none
  | k + 1, x, acc => if x = a then some acc else if okPred l last n x = true then backF l last n a k (rd_T27 l (rd last x)).f0 (acc ++ [rd last x]) else none
def tightF (l : List S27) (n : Nat) (a b : Int) : Option (Int × List Int × Bool) :=
  if (fromF l n a).1.has.getD b.toNat false = true then
    match backF l (fromF l n a).1.last n a n b [] with
    | none => none
    | some out => some (rd (fromF l n a).1.sum b, out.reverse, true)
  else some (0, [], false)

set_option maxHeartbeats 3200000 in
set_option maxRecDepth 100000 in
theorem tight_any (A : Option Addr) (c : Nat) (l : List S27) (n : Nat) (a b : Int) (w : World) (hn1 : 1 ≤ n) (hn : n ≤ 100) (ha : a < n) (hb0 : 0 ≤ b) (hb1 : b < n) (hr : Kd.C k27 w A l.length l) (hl : l.length ≤ 1000000)
    (hv : ∀ i : Nat, i < l.length → (0 ≤ (rd_T27 l i).f0 ∧ (rd_T27 l i).f0 < n) ∧ (0 ≤ (rd_T27 l i).f1 ∧ (rd_T27 l i).f1 < n)) (m : Int) (out : List Int) (is : Bool) (hF : tightF l n a b = some (m, out, is)) :
    Calls Try.prog 61 #[.slice A l.length c, .int .i64 n, .int .i64 a, .int .i64 b] w fun e' w' => ∃ v, e' = .returned (.tuple #[.int .i64 m, v, .bool is]) ∧ OutI w w' v out := by
  have HC := Aside0.mk hr
  have HV := Aside0.mk hv
  have HF := Aside0.mk hF
  clear hr hv hF
  go_enter Try.func61, Try.ntmps61
  go_wp2_with fail
  refine (from_any A c l n a w hn1 hn (by omega) HC.out hl HV.out).mono ?_
  rintro e' w1 ⟨g, b1, b2, b3, rfl, hR⟩
  have HR := Aside0.mk hR
  have HFF := HF.out
  unfold tightF at HFF
  generalize fromF l n a = fr at HR HFF ⊢
  obtain ⟨st, cc⟩ := fr
  clear hR
  simp only at HR HFF
  have f2 := HR.out.f2
  have xh := HR.out.has_at b hb0 hb1
  cases hbh : st.has.getD b.toNat false
  · rw [hbh] at xh
    rw [if_neg (by rw [hbh]; decide)] at HFF
    simp only [Option.some.injEq, Prod.mk.injEq] at HFF
    obtain ⟨rfl, rfl, rfl⟩ := HFF
    clear HF hbh
    go_wp2_with fail
    refine bodyPost_ret (results_list (rs := [.tmp 8, .tmp 9, .tmp 10]) rfl (by simp) (.tmp (.tmp (.tmp .nil)))) rfl ?_
    exact ⟨_, rfl, Kd.R_nil _ _ _ _ _, HR.out.bel⟩
  · rw [hbh] at xh
    rw [if_pos hbh] at HFF
    cases hbk : backF l st.last n a n b [] with
    | none => rw [hbk] at HFF; cases HFF
    | some o =>
      rw [hbk] at HFF
      simp only [Option.some.injEq, Prod.mk.injEq] at HFF
      obtain ⟨rfl, rfl, rfl⟩ := HFF
      have HBK := Aside0.mk hbk
      clear HF hbh hbk
      go_wp2_with fail
      clear f2 xh
      go_loopg [13, 14] n (fun k v13 v14 wr => ∃ (x : Int) (acc : List Int), v14 = .int .i64 x ∧ acc.length + k ≤ n ∧ Aside0 (OutI w1 wr v13 acc) ∧ Aside0 (backF l st.last n a k x acc = some o))
      case atStart => exact ⟨b, [], rfl, by simp, ⟨OutI.nil w1⟩, HBK⟩
      case round =>
        obtain ⟨y, acc, rfl, hlen, HO, HY⟩ := hrel
        have hY := HY.out
        by_cases hend : y = a
        · have hendb : (y != a) = false := by simpa using hend
          have hY1 : o = acc := by
            cases gk <;> (rw [backF, if_pos hend, Option.some.injEq] at hY; exact hY.symm)
          subst hY1
          clear hY HY hend
          have f1 := (HR.out.below HO.out.2).f1
          have xs := (HR.out.below HO.out.2).sum_at b hb0 hb1
          clear f1 xs
          go_wp2_with fail
          refine (HO.out.reverse (by omega)).mono ?_
          rintro e w6 ⟨rfl, hO6⟩
          have HO6 := Aside0.mk hO6
          have f1 := (HR.out.below hO6.2).f1
          have xs := (HR.out.below hO6.2).sum_at b hb0 hb1
          clear hO6
          go_wp2_with fail
          refine bodyPost_ret (results_list (rs := [.tmp 8, .tmp 9, .tmp 10]) rfl (by simp) (.tmp (.tmp (.tmp .nil)))) rfl ?_
          exact ⟨_, rfl, HO6.out.lift HR.out.bel⟩
        · have hendb : (y != a) = true := by simpa using hend
          cases gk with
          | zero => rw [backF, if_neg hend] at hY; cases hY
          | succ q =>
            rw [backF, if_neg hend] at hY
            by_cases hok : okPred l st.last n y = true
            · rw [if_pos hok] at hY
              obtain ⟨⟨hx0, hxn⟩, hy0, hyn⟩ := okPred_iff hok
              obtain ⟨_, e1, y0, y1, y2⟩ := at_T27 HC.out (rd st.last y) hy0 (by omega)
              cases e1
              replace y0 := (HR.out.bel.cell (World.block_lt_of_cell? w _ y0)).trans y0
              have HRW := Aside0.mk (HR.out.below HO.out.2)
              have f3 := HRW.out.f3
              have xl := HRW.out.last_at y hx0 hxn
              have HC0 := Aside0.mk y0
              have HYO := Aside0.mk hY
              clear y0 y1 y2 hok HY hend hY
              go_wp2_with (at_builtin; refine outI_append rfl _ _ rfl _ acc (rd st.last y) rfl (by first | (go_simp; done) | (go_simp; rfl)) HO.out (by omega) ?_; intro v5 w5 hT5; have HO5 := Aside0.mk hT5; have y0 := (HO5.out.2.cell (World.block_lt_of_cell? _ _ HC0.out)).trans HC0.out; clear f3 xl; have f3 := (HR.out.below HO5.out.2).f3; have xl := (HR.out.below HO5.out.2).last_at y hx0 hxn; clear hT5)
              go_roundg q
              case measure => omega
              case rel => exact ⟨_, _, rfl, by simp; omega, HO5, HYO⟩
            · rw [if_neg hok] at hY; cases hY
end Go.Proofs.Ytlfopemghafboaa.D
