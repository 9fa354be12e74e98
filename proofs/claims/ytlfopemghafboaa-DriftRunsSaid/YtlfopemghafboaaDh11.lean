/- Contracts of functions that the law reaches, each a walk through its code. No condition beyond each theorem's own hypotheses. -/
import Derived.Test.YtlfopemghafboaaDh10
import Derived.WalkSpells
import Derived.Handy
import Derived.StillTailTactics
import Derived.IntWalk
namespace Go.Proofs.Ytlfopemghafboaa.D
open Go.RowKit Go.Proofs.YtlfopemghafboaaW.PrintWords Go.Proofs.YtlfopemghafboaaW.PrintLast Go.Proofs.YtlfopemghafboaaW.PrintMore
set_option linter.unusedVariables false
set_option linter.unusedSimpArgs false

/-! ### slices.Reverse is reverse -/
theorem rev_l0 (k : Nat) : ∀ (mid pre post : List Int), mid.length < 2 * k → pre.length + mid.length + post.length ≤ 1000000 →
    slices_Reverse_int_int.l0 k (pre ++ mid ++ post) (pre.length : Int) ((pre.length : Int) + mid.length - 1) = some (pre ++ mid.reverse ++ post) := by
  induction k with
  | zero => intro mid pre post h; omega
  | succ k ih =>
    intro mid pre post h hl
    rw [slices_Reverse_int_int.l0]
    rcases mid with _ | ⟨a, t⟩
    · rw [if_neg (by simp; omega)]; rfl
    · rcases List.eq_nil_or_concat t with rfl | ⟨m, b, rfl⟩
      · rw [if_neg (by simp)]; rfl
      · simp only [List.concat_eq_append] at h hl ⊢
        simp only [List.length_cons, List.length_append, List.length_nil] at h hl ⊢
        rw [if_pos (by omega), if_pos (by omega), if_pos (by simp; omega), if_pos (by omega), if_pos (by simp; omega)]
        have e1 : (((pre.length : Int) + ((m.length + (0 + 1) + 1 : Nat) : Int) - 1)).toNat = pre.length + (m.length + 1) := by omega
        have e2 : ((pre.length : Int)).toNat = pre.length := by omega
        have e3 : wrap64 ((pre.length : Int) + 1) = ((pre ++ [b]).length : Int) := by simp only [List.length_append, List.length_cons, List.length_nil]; unfold wrap64; omega
        have e4 : wrap64 ((pre.length : Int) + ((m.length + (0 + 1) + 1 : Nat) : Int) - 1 - 1) = ((pre ++ [b]).length : Int) + m.length - 1 := by simp only [List.length_append, List.length_cons, List.length_nil]; unfold wrap64; omega
        have r1 : rd (pre ++ (a :: (m ++ [b])) ++ post) ((pre.length : Int) + ((m.length + (0 + 1) + 1 : Nat) : Int) - 1) = b := by
          unfold rd
          rw [e1, List.append_assoc, List.getD_eq_getElem?_getD, List.getElem?_append_right (by omega)]
          simp [List.getElem?_append_right]
        have r2 : rd (pre ++ (a :: (m ++ [b])) ++ post) (pre.length : Int) = a := by
          unfold rd
          rw [e2, List.append_assoc, List.getD_eq_getElem?_getD, List.getElem?_append_right (by omega)]
          simp
        rw [r1, r2, e1, e2, e3, e4]
        have s1 : ((pre ++ (a :: (m ++ [b])) ++ post).set pre.length b).set (pre.length + (m.length + 1)) a = (pre ++ [b]) ++ m ++ ([a] ++ post) := by
          rw [List.append_assoc pre, List.set_append, if_neg (by omega), Nat.sub_self]
          simp only [List.cons_append, List.set_cons_zero]
          rw [List.set_append, if_neg (by omega)]
          rw [show pre.length + (m.length + 1) - pre.length = m.length + 1 from by omega, List.set_cons_succ]
          rw [List.append_assoc m, List.set_append, if_neg (by omega), Nat.sub_self]
          simp
        rw [s1, ih m (pre ++ [b]) ([a] ++ post) (by omega) (by simp only [List.length_append, List.length_cons, List.length_nil]; omega)]
        simp
theorem rev_f (l : List Int) (hl : l.length ≤ 1000000) : slices_Reverse_int_int.f (l.length + 1) l = some l.reverse := by
  unfold slices_Reverse_int_int.f
  have h := rev_l0 (l.length + 1) l [] [] (by omega) (by simpa using hl)
  simp only [List.nil_append, List.append_nil, List.length_nil] at h
  rw [← h]
  congr 1
  unfold wrap64
  omega

/-- A row of numbers of the call's own, beside what stood at w1. -/
def OutI (w1 W : World) (v : Value) (xs : List Int) : Prop := Kd.R (Kd.int .i64) 3 W w1.heap.size (fun _ => True) v xs ∧ Below w1.heap.size w1 W
theorem OutI.nil (w1 : World) : OutI w1 w1 (.slice none 0 0) [] := ⟨Kd.R_nil _ _ _ _ _, Below.refl _ _⟩
theorem OutI.below {w W W1 : World} {v : Value} {xs : List Int} (h : OutI w W v xs) (hb : Below W.heap.size W W1) : OutI w W1 v xs := ⟨Kd.R_below h.1 hb, below_step h.2 hb⟩
theorem OutI.lift {w w1 W : World} {v : Value} {xs : List Int} (h : OutI w1 W v xs) (hb : Below w.heap.size w w1) : OutI w W v xs := ⟨Kd.R_lower h.1 hb.size, below_step hb h.2⟩
section
variable {ops : Array Oper} {rest : List Oper} {o : Oper} {a : Act} {Q : Exit → Act → World → Prop}
theorem outI_append {w W : World} (hgd : o.guard = none) (s x : Operand) (ho : o.op = .call { callee := .builtin .append, args := #[s, x], argTypes := #[28, 28] }) (v : Value) (xs : List Int) (p : Int) (hs : a.eval s = v) (hx : a.eval x = .slice (some ⟨W.heap.size, 0, none⟩) 1 1)
    (hT : OutI w W v xs) (hl : xs.length < 1000000) (h : ∀ v1 w1, OutI w w1 v1 (xs ++ [p]) → wpList Try.prog ops Q rest (a.put o.dst v1) w1) : wpList Try.prog ops Q (o :: rest) a (W.alloc (.cells #[.int .i64 p] 3)) :=
  Kd.R_append (Kd.int .i64) (w0 := w) w.heap.size hgd s x 28 3 (.int .i64 0) 8 ho Try.underlying28 info3 rfl (by decide) (by omega) v xs p [.int .i64 p] (fun _ => True) (fun _ => False) hs hx rfl (fun _ hk => hk.elim) (fun _ _ => trivial) hT.1 hT.2 hT.2.size (by omega)
    (fun v1 w1 h1 h2 h3 h4 => h v1 w1 ⟨h1, h2⟩)
end
theorem OutI.reverse {w W : World} {v : Value} {xs : List Int} (h : OutI w W v xs) (hl : xs.length ≤ 1000000) : Calls Try.prog 86 #[v] W fun e W' => e = .returned (.tuple #[]) ∧ OutI w W' v xs.reverse :=
  (slices_Reverse_int_int.calls (xs.length + 1) (fun _ => True) v xs xs.reverse w W h.2 h.1 (rev_f xs hl)).mono fun e W' ⟨h1, h2, h3, h4⟩ => ⟨h1, Kd.R_mono h2 (fun _ _ => trivial), h3⟩

/-- Where the bind that came last to x comes from, and its index. -/
def okPred (l : List S27) (last : List Int) (n : Nat) (x : Int) : Bool := decide (0 ≤ x) && decide (x < n) && decide (0 ≤ rd last x) && decide (rd last x < l.length)
theorem okPred_iff {l : List S27} {last : List Int} {n : Nat} {x : Int} (h : okPred l last n x = true) : (0 ≤ x ∧ x < n) ∧ 0 ≤ rd last x ∧ rd last x < l.length := by
  simp [okPred] at h
  omega
def stepsF (l : List S27) (last : List Int) (n : Nat) : Nat → Int → Option Int
  | 0, x => some x
  | k + 1, x => if okPred l last n x = true then stepsF l last n k (rd_T27 l (rd last x)).f0 else none
def cycF (l : List S27) (last : List Int) (n : Nat) (at_ : Int) : Nat → Int → List Int → Option (List Int)
  | 0, _, _ => none
  | k + 1, x, acc => if okPred l last n x = true then
      (if (rd_T27 l (rd last x)).f0 = at_ then some (acc ++ [rd last x]) else cycF l last n at_ k (rd_T27 l (rd last x)).f0 (acc ++ [rd last x]))
    else none
def circleF (l : List S27) (n : Nat) : Option (List Int × Bool) :=
  if (fromF l n (-1)).2 < 0 then some ([], false)
  else match stepsF l (fromF l n (-1)).1.last n n (fromF l n (-1)).2 with
    | none => none
    | some at_ => match cycF l (fromF l n (-1)).1.last n at_ (n + 1) at_ [] with
      | none => none
      | some out => some (out.reverse, true)

set_option maxHeartbeats 3200000 in
set_option maxRecDepth 100000 in
theorem circle_any (A : Option Addr) (c : Nat) (l : List S27) (n : Nat) (w : World) (hn1 : 1 ≤ n) (hn : n ≤ 100) (hr : Kd.C k27 w A l.length l) (hl : l.length ≤ 1000000)
    (hv : ∀ i : Nat, i < l.length → (0 ≤ (rd_T27 l i).f0 ∧ (rd_T27 l i).f0 < n) ∧ (0 ≤ (rd_T27 l i).f1 ∧ (rd_T27 l i).f1 < n)) (out : List Int) (is : Bool) (hF : circleF l n = some (out, is)) :
    Calls Try.prog 81 #[.slice A l.length c, .int .i64 n] w fun e' w' => ∃ v, e' = .returned (.tuple #[v, .bool is]) ∧ OutI w w' v out := by
  have HC := Aside0.mk hr
  have HV := Aside0.mk hv
  have HF := Aside0.mk hF
  clear hr hv hF
  go_enter Try.func81, Try.ntmps81
  go_wp2_with fail
  refine (from_any A c l n (-1) w hn1 hn (by omega) HC.out hl HV.out).mono ?_
  rintro e' w1 ⟨g, b1, b2, b3, rfl, hR⟩
  have HR := Aside0.mk hR
  have HFF := HF.out
  unfold circleF at HFF
  generalize fromF l n (-1) = fr at HR HFF ⊢
  obtain ⟨st, cc⟩ := fr
  clear hR
  simp only at HR HFF
  by_cases hcc : cc < 0
  · have hcb : decide (cc < 0) = true := by simpa using hcc
    rw [if_pos hcc] at HFF
    have HFF := Aside0.mk HFF
    have e1 := HFF.out
    simp only [Option.some.injEq, Prod.mk.injEq] at e1
    obtain ⟨rfl, rfl⟩ := e1
    clear hcc HF HFF
    go_wp2_with fail
    go_ret2
    exact ⟨_, rfl, Kd.R_nil _ _ _ _ _, HR.out.bel⟩
  · have hcb : decide (cc < 0) = false := by simpa using hcc
    rw [if_neg hcc] at HFF
    cases hst : stepsF l st.last n n cc with
    | none => rw [hst] at HFF; cases HFF
    | some at_ =>
      rw [hst] at HFF
      simp only at HFF
      cases hcy : cycF l st.last n at_ (n + 1) at_ [] with
      | none => rw [hcy] at HFF; cases HFF
      | some o =>
        rw [hcy] at HFF
        simp only [Option.some.injEq, Prod.mk.injEq] at HFF
        obtain ⟨rfl, rfl⟩ := HFF
        have HST := Aside0.mk hst
        have HCY := Aside0.mk hcy
        clear hst hcy hcc HF
        go_wp2_with fail
        go_loopw [7,19] (fun v7 v19 wr => ∃ (k : Nat) (x : Int), wr = w1 ∧ k ≤ n ∧ v7 = .int .i64 x ∧ v19 = .int .i64 (k : Int) ∧ Aside0 (stepsF l st.last n (n - k) x = some at_)) (fun v7 v19 wr => n - (intOf v19).toNat)
        case atStart => exact ⟨0, cc, rfl, by omega, rfl, rfl, by rw [Nat.sub_zero]; exact HST⟩
        case round =>
          obtain ⟨k, x, rfl, hk, rfl, rfl, hS⟩ := hrel
          by_cases hkn : k < n
          · have hkb : decide ((k : Int) < (n : Int)) = true := by simp; omega
            have hS1 := hS.out
            rw [show n - k = (n - k - 1) + 1 from by omega, stepsF] at hS1
            by_cases hok : okPred l st.last n x = true
            · rw [if_pos hok] at hS1
              obtain ⟨⟨hx0, hxn⟩, hy0, hyn⟩ := okPred_iff hok
              have hS2 := Aside0.mk hS1
              clear hS1
              have HOK := Aside0.mk hok
              obtain ⟨⟨i0, i1⟩, _⟩ := HV.out (rd st.last x).toNat (by omega)
              obtain ⟨_, e1, y0, y1, y2⟩ := at_T27 HC.out (rd st.last x) hy0 (by omega)
              cases e1
              replace y0 := (HR.out.bel.cell (World.block_lt_of_cell? w _ y0)).trans y0
              have f3 := HR.out.f3
              have xl := HR.out.last_at x hx0 hxn
              clear y1 y2 hok
              go_wp2_with fail
              go_roundw
              case rel => exact ⟨k + 1, _, by first | rfl | trivial, by omega, by first | rfl | trivial, by go_num, ⟨by rw [show n - (k + 1) = n - k - 1 from by omega]; exact hS2.out⟩⟩
              case measure => simp [intOf]; omega
            · rw [if_neg hok] at hS1; cases hS1
          · have hkb : decide ((k : Int) < (n : Int)) = false := by simp; omega
            have hke : k = n := by omega
            have hS1 := hS.out
            rw [hke, Nat.sub_self, stepsF, Option.some.injEq] at hS1
            subst hS1
            go_wp2_with fail
            obtain ⟨at0, hat0⟩ : ∃ at0 : Int, at0 = x := ⟨_, rfl⟩
            obtain ⟨wo, hwo⟩ : ∃ wo : World, wo = wr := ⟨_, rfl⟩
            subst hwo
            clear hkn hkb hke hS hk
            rw [← hat0] at HCY HST ⊢
            subst hat0
            go_loopg [8, 9] (n + 1) (fun k v8 v9 wr1 => ∃ (x : Int) (acc : List Int), v9 = .int .i64 x ∧ acc.length + k ≤ n + 1 ∧ Aside0 (OutI wo wr1 v8 acc) ∧ Aside0 (cycF l st.last n at0 k x acc = some o))
            case atStart => exact ⟨at0, [], rfl, by simp, ⟨OutI.nil wo⟩, HCY⟩
            case round =>
              obtain ⟨y, acc, rfl, hlen, HO, HY⟩ := hrel
              have hY := HY.out
              cases gk with
              | zero => cases hY
              | succ q =>
                rw [cycF] at hY
                by_cases hok : okPred l st.last n y = true
                · rw [if_pos hok] at hY
                  obtain ⟨⟨hx0, hxn⟩, hy0, hyn⟩ := okPred_iff hok
                  obtain ⟨_, e1, y0, y1, y2⟩ := at_T27 HC.out (rd st.last y) hy0 (by omega)
                  cases e1
                  replace y0 := (HR.out.bel.cell (World.block_lt_of_cell? w _ y0)).trans y0
                  have HRW := Aside0.mk (HR.out.below HO.out.2)
                  have f3 := HRW.out.f3
                  have xl := HRW.out.last_at y hx0 hxn
                  have HC0 := Aside0.mk y0
                  clear y0 y1 y2 hok HY
                  by_cases hend : (rd_T27 l (rd st.last y)).f0 = at0
                  · rw [if_pos hend, Option.some.injEq] at hY
                    have hendb : ((rd_T27 l (rd st.last y)).f0 == at0) = true := by simpa using hend
                    have HYO := Aside0.mk hY
                    clear hend hY
                    go_wp2_with (at_builtin; refine outI_append rfl _ _ rfl _ acc (rd st.last y) rfl (by first | (go_simp; done) | (go_simp; rfl)) HO.out (by omega) ?_; intro v5 w5 hT5; have HO5 := Aside0.mk hT5; have y0 := (HO5.out.2.cell (World.block_lt_of_cell? _ _ HC0.out)).trans HC0.out; clear f3 xl; have f3 := (HR.out.below HO5.out.2).f3; have xl := (HR.out.below HO5.out.2).last_at y hx0 hxn; clear hT5)
                    refine (HO5.out.reverse (by simp; omega)).mono ?_
                    rintro e w6 ⟨rfl, hO6⟩
                    have HO6 := Aside0.mk hO6
                    clear hO6 y0 f3 xl
                    go_wp2_with fail
                    go_ret2
                    have hyo := HYO.out
                    subst hyo
                    exact ⟨_, rfl, HO6.out.lift HR.out.bel⟩
                  · rw [if_neg hend] at hY
                    have hendb : ((rd_T27 l (rd st.last y)).f0 == at0) = false := by simpa using hend
                    have HYO := Aside0.mk hY
                    clear hend hY
                    go_wp2_with (at_builtin; refine outI_append rfl _ _ rfl _ acc (rd st.last y) rfl (by first | (go_simp; done) | (go_simp; rfl)) HO.out (by omega) ?_; intro v5 w5 hT5; have HO5 := Aside0.mk hT5; have y0 := (HO5.out.2.cell (World.block_lt_of_cell? _ _ HC0.out)).trans HC0.out; clear f3 xl; have f3 := (HR.out.below HO5.out.2).f3; have xl := (HR.out.below HO5.out.2).last_at y hx0 hxn; clear hT5)
                    go_roundg q
                    case measure => omega
                    case rel => exact ⟨_, _, rfl, by simp; omega, HO5, HYO⟩
                · rw [if_neg hok] at hY; cases hY
end Go.Proofs.Ytlfopemghafboaa.D
