/- Contracts of functions that the law reaches, each a walk through its code. No condition beyond each theorem's own hypotheses. -/
import Derived.Test.YtlfopemghafboaaDh12
import Derived.Test.YtlfopemghafboaaDh7
import Derived.WalkSpells
import Derived.Handy
import Derived.StillTailTactics
import Derived.IntWalk
import Derived.Deep.LoopGhost
import Derived.Deep.RegionWith
namespace Go.Proofs.Ytlfopemghafboaa.D
open Go.RowKit Go.Proofs.YtlfopemghafboaaW.PrintWords Go.Proofs.YtlfopemghafboaaW.PrintLast Go.Proofs.YtlfopemghafboaaW.PrintMore
set_option linter.unusedVariables false
set_option linter.unusedSimpArgs false
/-- A row that has a block begins at its first cell. -/
theorem R_form {α : Type} {d : Kd α} {e : Nat} {w : World} {base : Nat} {ok : Nat → Prop} {v : Value} {xs : List α} (h : d.R e w base ok v xs) {b : Nat} (hb : v.ownBlock = some b) : ∃ g cap, v = .slice (some ⟨g, 0, none⟩) xs.length cap := by
  obtain ⟨inner, ho⟩ := Kd.R_own h
  rcases ho.2 with ⟨rfl, _⟩ | ⟨g, cap, cur, rfl, _⟩
  · simp [Value.ownBlock] at hb
  · exact ⟨g, cap, rfl⟩
theorem add_zero_ (g k : Nat) : (⟨g, 0, none⟩ : Addr).add k = ⟨g, k, none⟩ := by
  unfold Addr.add
  split
  · rename_i h; simp_all
  · simp
section
variable {ops : Array Oper} {rest : List Oper} {o : Oper} {a : Act} {Q : Exit → Act → World → Prop}
theorem make68 {w W : World} (hgd : o.guard = none) {N : Tmp} (hd : o.dst = some N) (x y : Operand) (ho : o.op = .makeSlice 68 x y) (n : Nat) (hn : n ≤ 1000000) (hx : a.eval x = .int .i64 (n : Int)) (hy : a.eval y = .int .i64 (n : Int)) (hB : Below w.heap.size w W)
    (h : ∀ g cap w1, Out w w1 (.slice (some ⟨g, 0, none⟩) n cap) (List.replicate n ⟨0, 0, 0⟩) → wpList Try.prog ops Q rest (a.put o.dst (.slice (some ⟨g, 0, none⟩) n cap)) w1) : wpList Try.prog ops Q (o :: rest) a W := by
  refine Kd.R_make k27 (w0 := w) w.heap.size 27 hgd hd 68 x y ho (n : Int) hx hy Try.underlying68 (.agg #[(.int .i64 0), (.int .i64 0), (.int .i64 0)]) 24 info27 rfl (by decide) (by omega) (⟨0, 0, 0⟩ : S27) (ok := fun _ => True) (okp := fun _ => False) (k27_mkM _ _ _ (⟨0, 0, 0⟩ : S27)) (fun _ hk => hk.elim) trivial (by omega) (by omega) hB hB.size ?_
  intro v1 w1 h1 h2 _ h4
  obtain ⟨b, hb, _⟩ := h4
  simp only [Int.toNat_natCast] at h1
  obtain ⟨g, cap, rfl⟩ := R_form h1 hb
  simp only [List.length_replicate] at h1 ⊢
  exact h g cap w1 ⟨h1, h2⟩
theorem make28 {w W : World} (hgd : o.guard = none) {N : Tmp} (hd : o.dst = some N) (x y : Operand) (ho : o.op = .makeSlice 28 x y) (n : Nat) (hn : n ≤ 1000000) (hx : a.eval x = .int .i64 (n : Int)) (hy : a.eval y = .int .i64 (n : Int)) (hB : Below w.heap.size w W)
    (h : ∀ g cap w1, OutI w w1 (.slice (some ⟨g, 0, none⟩) n cap) (List.replicate n 0) → wpList Try.prog ops Q rest (a.put o.dst (.slice (some ⟨g, 0, none⟩) n cap)) w1) : wpList Try.prog ops Q (o :: rest) a W := by
  refine Kd.R_make (Kd.int .i64) (w0 := w) w.heap.size 3 hgd hd 28 x y ho (n : Int) hx hy Try.underlying28 (.int .i64 0) 8 info3 rfl (by decide) (by omega) (0 : Int) (ok := fun _ => True) (okp := fun _ => False) rfl (fun _ hk => hk.elim) trivial (by omega) (by omega) hB hB.size ?_
  intro v1 w1 h1 h2 _ h4
  obtain ⟨b, hb, _⟩ := h4
  simp only [Int.toNat_natCast] at h1
  obtain ⟨g, cap, rfl⟩ := R_form h1 hb
  simp only [List.length_replicate] at h1 ⊢
  exact h g cap w1 ⟨h1, h2⟩
theorem store27 {w W : World} (hN : o.dst = none) (hgd : o.guard = none) (p x : Operand) (ho : o.op = .store 27 p x) {g n cap o' : Nat} (i : Nat) (xs : List S27) (b : S27) (haddr : a.eval p = .pointer (some ⟨g, o', none⟩)) (hoff : o' = i * 3) (hx : a.eval x = .agg #[.int .i64 b.f0, .int .i64 b.f1, .int .i64 b.f2])
    (HO : Out w W (.slice (some ⟨g, 0, none⟩) n cap) xs) (hi : i < n) (h : ∀ w1, Out w w1 (.slice (some ⟨g, 0, none⟩) n cap) (xs.set i b) → wpList Try.prog ops Q rest a w1) : wpList Try.prog ops Q (o :: rest) a W := by
  have hC := Kd.R_reads' HO.1
  obtain ⟨_, e1, y0, y1, y2⟩ := at_T27 hC.2.2 (i : Int) (by omega) (by omega)
  cases e1
  simp only [Int.toNat_natCast, add_zero_] at y0 y1 y2
  refine Kd.R_store k27 (w0 := w) w.heap.size hN hgd 27 p x ho 27 (i : Int) 0 xs b (.agg #[.int .i64 b.f0, .int .i64 b.f1, .int .i64 b.f2]) [.int .i64 b.f0, .int .i64 b.f1, .int .i64 b.f2] [.int .i64 (rd_T27 xs i).f0, .int .i64 (rd_T27 xs i).f1, .int .i64 (rd_T27 xs i).f2] (fun _ => True) (fun _ => False) haddr (by rw [hoff]; rfl) hx rfl (by kernel_rfl) (by simp [Value.oneCell']) HO.1 (by omega) (by omega) rfl ?_ (by simp [k27, Kd.iso, Kd.pair, Kd.int, Kd.scalar]) (k27_mkM _ _ _ b) (fun _ hk => hk.elim) HO.2 (fun w1 h1 h2 _ => h w1 ⟨by simpa using h1, h2⟩)
  intro j u hj
  have hj3 : j < 3 := by have := (List.getElem?_eq_some_iff.1 hj).1; simpa using this
  rcases (by omega : j = 0 ∨ j = 1 ∨ j = 2) with rfl | rfl | rfl <;> (simp at hj; subst hj; assumption)
theorem store3 {w W : World} (hN : o.dst = none) (hgd : o.guard = none) (p x : Operand) (ho : o.op = .store 3 p x) {g n cap o' : Nat} (i : Nat) (xs : List Int) (b : Int) (haddr : a.eval p = .pointer (some ⟨g, o', none⟩)) (hoff : o' = i) (hx : a.eval x = .int .i64 b)
    (HO : OutI w W (.slice (some ⟨g, 0, none⟩) n cap) xs) (hi : i < n) (h : ∀ w1, OutI w w1 (.slice (some ⟨g, 0, none⟩) n cap) (xs.set i b) → wpList Try.prog ops Q rest a w1) : wpList Try.prog ops Q (o :: rest) a W := by
  obtain ⟨cs, hcl, hcc⟩ : ∃ cs : List Value, cs.length = 1 ∧ ∀ j u, cs[j]? = some u → W.cell? ⟨g, (i : Int).toNat * 1 + j, none⟩ = some u := by
    obtain ⟨_, _, hC⟩ := Kd.R_reads' HO.1
    obtain ⟨_, e1, y0⟩ := Kd.at_int hC (i : Int) (by omega) (by omega)
    cases e1
    rw [add_zero_] at y0
    refine ⟨[.int .i64 (rd xs i)], rfl, fun j u hj => ?_⟩
    have hj1 : j < 1 := by have := (List.getElem?_eq_some_iff.1 hj).1; simpa using this
    obtain rfl : j = 0 := by omega
    simp at hj
    subst hj
    simpa using y0
  refine Kd.R_store (Kd.int .i64) (w0 := w) w.heap.size hN hgd 3 p x ho 3 (i : Int) 0 xs b (.int .i64 b) [.int .i64 b] cs (fun _ => True) (fun _ => False) haddr (by rw [hoff]; simp [Kd.int, Kd.scalar]) hx rfl (by kernel_rfl) (by simp [Value.oneCell']) HO.1 (by omega) (by omega) hcl hcc (by simp [Kd.int, Kd.scalar]) ?_ (fun _ hk => hk.elim) HO.2 (fun w1 h1 h2 _ => h w1 ⟨by simpa using h1, h2⟩)
  show List.take 0 cs ++ [Value.int .i64 b] ++ List.drop (0 + 1) cs = [Value.int .i64 b]
  rw [List.drop_eq_nil_of_le (by omega)]
  rfl
end
def turn (b : S27) : S27 := ⟨b.f1, b.f0, b.f2⟩
def earliestF (l : List S27) (n : Nat) : Option (List Int × Bool) :=
  match circleF l n with
  | none => none
  | some (_, true) => some ([], false)
  | some (_, false) => some ((fromF (l.map turn) n 0).1.sum.map (fun x => wrap64 (-x)), true)
theorem turn_rd (l : List S27) (j : Nat) (hj : j < l.length) : rd_T27 (l.map turn) j = turn (rd_T27 l j) := by
  simp [rd_T27, List.getD_eq_getElem?_getD, List.getElem?_eq_getElem hj]
theorem fill_step {α : Type} (d : α) (xs : List α) (N j : Nat) (hN : xs.length = N) (hj : j < N) (x : α) (hx : xs[j]? = some x) : (xs.take j ++ List.replicate (N - j) d).set j x = xs.take (j + 1) ++ List.replicate (N - (j + 1)) d := by
  rw [List.set_append, if_neg (by simp; omega)]
  have e : N - j = (N - (j + 1)) + 1 := by omega
  have h1 : j - (xs.take j).length = 0 := by simp; omega
  rw [h1, e, List.replicate_succ, List.set_cons_zero, List.take_add_one, hx]
  simp
theorem neg_at (xs : List Int) (j : Nat) (h2 : j < xs.length) : (xs.map (fun x => wrap64 (-x)))[j]? = some (wrap64 (-(rd xs j))) := by
  simp [rd, List.getD_eq_getElem?_getD, List.getElem?_eq_getElem h2]
theorem from_any_n (A : Option Addr) (c : Nat) (l : List S27) (N : Nat) (hN : l.length = N) (n : Nat) (e : Int) (w : World) (hn1 : 1 ≤ n) (hn : n ≤ 100) (he : e < n) (hr : Kd.C k27 w A l.length l) (hl : l.length ≤ 1000000)
    (hv : ∀ i : Nat, i < l.length → (0 ≤ (rd_T27 l i).f0 ∧ (rd_T27 l i).f0 < n) ∧ (0 ≤ (rd_T27 l i).f1 ∧ (rd_T27 l i).f1 < n)) :
    Calls Try.prog 85 #[.slice A N c, .int .i64 n, .int .i64 e] w fun e' w' => ∃ g b1 b2 b3, e' = .returned (.tuple #[.pointer (some ⟨g, 0, none⟩), .int .i64 (fromF l n e).2]) ∧ Roads w w' g b1 b2 b3 n A N c (fromF l n e).1.sum (fromF l n e).1.has (fromF l n e).1.last := by
  subst hN
  exact from_any A c l n e w hn1 hn he hr hl hv
set_option maxHeartbeats 3200000 in
set_option maxRecDepth 100000 in
theorem earliest_any (A : Option Addr) (c : Nat) (l : List S27) (n : Nat) (w : World) (hn1 : 1 ≤ n) (hn : n ≤ 100) (hr : Kd.C k27 w A l.length l) (hl : l.length ≤ 1000000)
    (hv : ∀ i : Nat, i < l.length → (0 ≤ (rd_T27 l i).f0 ∧ (rd_T27 l i).f0 < n) ∧ (0 ≤ (rd_T27 l i).f1 ∧ (rd_T27 l i).f1 < n)) (out : List Int) (is : Bool) (hF : earliestF l n = some (out, is)) :
    Calls Try.prog 75 #[.slice A l.length c, .int .i64 n] w fun e' w' => ∃ v, e' = .returned (.tuple #[v, .bool is]) ∧ OutI w w' v out := by
  have HC := Aside0.mk hr
  have HV := Aside0.mk hv
  have HF := Aside0.mk hF
  have HL := Aside0.mk hl
  clear hr hv hF
  go_enter Try.func75, Try.ntmps75
  go_wp2_with fail
  have HFF := HF.out
  unfold earliestF at HFF
  cases hci : circleF l n with
  | none => rw [hci] at HFF; cases HFF
  | some q =>
    obtain ⟨o, ci⟩ := q
    rw [hci] at HFF
    refine (circle_any A c l n w hn1 hn HC.out HL.out HV.out o ci hci).mono ?_
    rintro e' w1 ⟨v1, rfl, hO⟩
    have HO := Aside0.mk hO
    clear hO hci
    cases ci
    · simp only [Option.some.injEq, Prod.mk.injEq] at HFF
      obtain ⟨rfl, rfl⟩ := HFF
      have HM : Aside0 (l.length ≤ 1000000) := HL
      go_wp2_with ((with_reducible refine gate_ (.makeSlice 68 (.tmp 23) (.tmp 23)) rfl ?_); refine make68 (w := w) rfl rfl _ _ rfl l.length HM.out rfl rfl HO.out.2 ?_; intro tg tcap w2 hT; have HT := Aside0.mk hT; clear hT)
      have HC2 := Aside0.mk (Kd.C_below HC.out HT.out.2)
      go_loopw [27] (fun v27 wr => ∃ j : Nat, v27 = .int .i64 (j : Int) ∧ j ≤ l.length ∧ Aside0 (Out w wr (.slice (some ⟨tg, 0, none⟩) l.length tcap) ((l.map turn).take j ++ List.replicate (l.length - j) ⟨0, 0, 0⟩))) (fun v27 wr => l.length - (intOf v27).toNat)
      case atStart => exact ⟨0, rfl, by omega, by simpa using HT⟩
      case round =>
        obtain ⟨j, rfl, hj, HR⟩ := hrel
        by_cases hlt : j < l.length
        · have hltb : decide ((j : Int) < (l.length : Int)) = true := by simpa using hlt
          obtain ⟨_, e1, y0, y1, y2⟩ := at_T27 HC.out (j : Int) (by omega) (by omega)
          cases e1
          replace y0 := (HR.out.2.cell (World.block_lt_of_cell? w _ y0)).trans y0
          replace y1 := (HR.out.2.cell (World.block_lt_of_cell? w _ y1)).trans y1
          replace y2 := (HR.out.2.cell (World.block_lt_of_cell? w _ y2)).trans y2
          simp only [Int.toNat_natCast] at y0 y1 y2
          have HS := Aside0.mk (fill_step (⟨0, 0, 0⟩ : S27) (l.map turn) l.length j (by simp) hlt (turn (rd_T27 l j)) (by simp [rd_T27, List.getD_eq_getElem?_getD, List.getElem?_eq_getElem hlt]))
          generalize rd_T27 l (j : Int) = b at y0 y1 y2 HS
          obtain ⟨bf, bt, bm⟩ := b
          simp only at y0 y1 y2
          have HR1 := Aside0.mk (HR.out.below (below_alloc (Below.refl _ wr) (.cells #[.int .i64 bf, .int .i64 bt, .int .i64 bm] 27)))
          go_wp2_with ((with_reducible refine gate_ (.store 27 (.tmp 41) (.tmp 40)) rfl ?_); refine store27 (w := w) rfl rfl _ _ rfl j _ (⟨bt, bf, bm⟩ : S27) rfl (by first | rfl | simp) (by first | rfl | (go_simp; done)) HR1.out hlt ?_; intro w3 hO3; have HO3 := Aside0.mk hO3; clear hO3)
          go_roundw
          case rel => exact ⟨j + 1, by go_num, by omega, ⟨by have := HO3.out; have hs := HS.out; simp only [turn] at hs; rw [hs] at this; exact this⟩⟩
          case measure => simp [intOf]; omega
        · have hltb : decide ((j : Int) < (l.length : Int)) = false := by simpa using hlt
          have hje : j = l.length := by omega
          have HR0 := HR.out
          rw [hje, Nat.sub_self, List.replicate_zero, List.append_nil, List.take_of_length_le (by simp)] at HR0
          have HR1 := Aside0.mk HR0
          clear HR0 HR
          have HVT : Aside0 (∀ i : Nat, i < (l.map turn).length → (0 ≤ (rd_T27 (l.map turn) i).f0 ∧ (rd_T27 (l.map turn) i).f0 < n) ∧ (0 ≤ (rd_T27 (l.map turn) i).f1 ∧ (rd_T27 (l.map turn) i).f1 < n)) := ⟨fun i hi => by
            have hi' : i < l.length := by simpa using hi
            rw [turn_rd l i hi']
            exact ⟨(HV.out i hi').2, (HV.out i hi').1⟩⟩
          go_wp2_with fail
          refine (from_any_n (some ⟨tg, 0, none⟩) tcap (l.map turn) l.length (by simp) n 0 wr hn1 hn (by omega) (Kd.R_reads' HR1.out.1).2.2 (by simpa using HM.out) HVT.out).mono ?_
          rintro e' w4 ⟨g, b1, b2, b3, rfl, hR⟩
          generalize hfr : fromF (l.map turn) n 0 = fr at hR ⊢
          obtain ⟨st, cc⟩ := fr
          simp only at hR ⊢
          have HRo := Aside0.mk hR
          have HFR := Aside0.mk hfr
          clear hR hfr
          have hBW := Aside0.mk (below_step HR1.out.2 HRo.out.bel)
          go_wp2_with ((with_reducible refine gate_ (.makeSlice 28 (.tmp 49) (.tmp 49)) rfl ?_); refine make28 (w := w4) rfl rfl _ _ rfl n (by omega) rfl rfl (Below.refl _ _) ?_; intro og ocap w5 hT; have HOt := Aside0.mk hT; clear hT)
          clear hlt hltb hje hj
          obtain ⟨wo, hwo⟩ : ∃ wo : World, wo = wr := ⟨_, rfl⟩
          subst hwo
          go_loopw [53] (fun v53 wr => ∃ j : Nat, v53 = .int .i64 (j : Int) ∧ j ≤ n ∧ Aside0 (OutI w4 wr (.slice (some ⟨og, 0, none⟩) n ocap) ((st.sum.map (fun x => wrap64 (-x))).take j ++ List.replicate (n - j) 0))) (fun v53 wr => n - (intOf v53).toNat)
          case atStart => exact ⟨0, rfl, by omega, by simpa using HOt⟩
          case round =>
            obtain ⟨j, rfl, hj, HR⟩ := hrel
            by_cases hlt : j < n
            · have hltb : decide ((j : Int) < (n : Int)) = true := by simpa using hlt
              have hRo := HRo.out.below HR.out.2
              have f1 := hRo.f1
              have xs := hRo.sum_at (j : Int) (by omega) (by omega)
              have HS := Aside0.mk (fill_step (0 : Int) (st.sum.map (fun x => wrap64 (-x))) n j (by simpa using hRo.ls) hlt (wrap64 (-(rd st.sum j))) (neg_at st.sum j (by have := hRo.ls; omega)))
              simp only [Int.toNat_natCast] at xs
              generalize rd st.sum (j : Int) = b at xs HS
              clear hRo
              go_wp2_with ((with_reducible refine gate_ (.store 3 (.tmp 66) (.tmp 65)) rfl ?_); refine store3 (w := w4) rfl rfl _ _ rfl j _ (wrap64 (-b)) rfl (by first | rfl | simp) (by first | rfl | (go_simp; done)) HR.out hlt ?_; intro w3 hO3; have HO3 := Aside0.mk hO3; clear hO3)
              go_roundw
              case rel => exact ⟨j + 1, by go_num, by omega, ⟨by have := HO3.out; rw [HS.out] at this; exact this⟩⟩
              case measure => simp [intOf]; omega
            · have hltb : decide ((j : Int) < (n : Int)) = false := by simpa using hlt
              have hje : j = n := by omega
              have HR0 := HR.out
              rw [hje, Nat.sub_self, List.replicate_zero, List.append_nil, List.take_of_length_le (by have := HRo.out.ls; simp; omega)] at HR0
              have HRZ := Aside0.mk HR0
              clear HR0 HR
              go_wp2_with fail
              go_ret2
              rw [HFR.out]
              exact ⟨_, rfl, HRZ.out.lift hBW.out⟩
    · simp only [Option.some.injEq, Prod.mk.injEq] at HFF
      obtain ⟨rfl, rfl⟩ := HFF
      go_wp2_with fail
      go_ret2
      exact ⟨_, rfl, Kd.R_nil _ _ _ _ _, HO.out.2⟩
end Go.Proofs.Ytlfopemghafboaa.D
