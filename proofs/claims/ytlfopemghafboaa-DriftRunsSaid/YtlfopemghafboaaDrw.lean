/- The contract of the law DriftRuns, by a walk through its code. No condition beyond each theorem's own hypotheses. -/
import Derived.Test.YtlfopemghafboaaDea
import Derived.Test.YtlfopemghafboaaDeb
import Derived.Test.YtlfopemghafboaaDsane
namespace Go.Proofs.Ytlfopemghafboaa.D
open Go.RowKit Go.Proofs.YtlfopemghafboaaW.PrintWords Go.Proofs.YtlfopemghafboaaW.PrintLast Go.Proofs.YtlfopemghafboaaW.PrintMore
set_option linter.unusedVariables false
set_option linter.unusedSimpArgs false
theorem sameInts_self (l : List Int) (hl : l.length ≤ 1000000) : ∀ d i n : Nat, i + d = l.length → d + 1 ≤ n → rf_SameInts.l0 n l l (i : Int) = some true := by
  intro d
  induction d with
  | zero =>
    intro i n hi hn
    obtain ⟨m, rfl⟩ : ∃ m, n = m + 1 := ⟨n - 1, by omega⟩
    simp only [rf_SameInts.l0]
    rw [if_neg (by omega)]
  | succ d ih =>
    intro i n hi hn
    obtain ⟨m, rfl⟩ : ∃ m, n = m + 1 := ⟨n - 1, by omega⟩
    have e1 : wrap64 ((i : Int) + 1) = ((i + 1 : Nat) : Int) := by rw [wrap64_id' _ (by omega) (by omega)]; omega
    have IH := ih (i + 1) m (by omega) (by omega)
    simp only [rf_SameInts.l0]
    simp only [if_pos (show (i : Int) < (l.length : Int) by omega), if_pos (show (0 : Int) ≤ (i : Int) by omega), if_true, e1]
    exact IH
def rn_T7 : Bool × List (List Nat × List Nat) := (true,[([],[]),([],[]),([0,1],[0,1]),([2],[2]),([3],[3]),([4,3],[3,4]),([5,3,3],[3,5]),([6],[6]),([6],[6]),([7,8,6],[6,7,8]),([9,6,6],[6,9]),([10],[10]),([11,10,10],[10,11]),([12],[12]),([12],[12]),([13,14,12,12],[12,13,14]),([15,12],[12,15]),([12,16,10],[10,12,16]),([10,17,6],[6,10,17]),([6,18,3],[3,6,18]),([3,19],[3,19]),([20,15],[20]),([21],[21]),([21],[21]),([22,23,21,21],[21,22,23]),([21],[21]),([21],[21]),([25,26,24,21],[21,25,26]),([24,27,21],[21,24,27]),([21,28],[21,28])])
def rn_B7 : List Nat := [0,0,3,7,15,31,63,127,127,511,1023,2047,4095,8191,8191,32767,65535,131071,262143,524287,1048575,2097151,4194303,4194303,16777215,4194303,4194303,134217727,268435455,536870911]
theorem rn_tab7 : rtab .any (opsOf Try.f12 7) = rn_T7 := by kernel_rfl
theorem rn_bits7 : waitsOk rn_T7.2 rn_B7 = true := by kernel_rfl
section
variable {P : Program} {ops : Array Oper} {Q : Exit → Act → World → Prop} {md : Region.Mode} {S : World → Prop} {ds : List Nat} {N : Option Tmp} {oi : Oper} {v : Value} {fuel : Nat} {l : Array Bool} {a : Act} {w : World} {T : Bool × List (List Nat × List Nat)} {B : List Nat} {a' : Act}
theorem pureS_ (i : Nat) (hT : rtab md ops = T) (hi : ops[i]? = some oi) (hN : oi.dst = N) (hc : anyT T l.toList (l.setIfInBounds i true).toList i = true) (hQ : ∀ c a w, Q (.panic c) (a.put oi.dst v) w → Q (.panic c) a w) (hy : Yields P ops oi v a) (ha : a.put N v = a')
    (h : wpAnyLast P md ops Q S ds fuel (l.setIfInBounds i true) a' w) : wpAnyLast P md ops Q S ds (fuel + 1) l a w := pure_ _ hi hN (any_of hT hc) hQ hy ha h
theorem takeS_ (i : Nat) (hT : rtab md ops = T) (hB : waitsOk T.2 B = true) (hi : ops[i]? = some oi) (hN : oi.dst = N) (hc : takeW T B ds l.toList (l.setIfInBounds i true).toList i = true) (hQ : ∀ c a w, Q (.panic c) (a.put oi.dst v) w → Q (.panic c) a w) (hy : YieldsIf P ops S oi v a) (hS : S w) (ha : a.put N v = a')
    (h : wpAnyLast P md ops Q S ds fuel (l.setIfInBounds i true) a' w) : wpAnyLast P md ops Q S ds (fuel + 1) l a w := take_ _ hi hN (take_ofW hT hB hc) hQ hy hS ha h
theorem oneS_ (i : Nat) (hT : rtab md ops = T) (hi : ops[i]? = some oi) (hN : oi.dst = N) (hc : (readyT T.2 l.toList == [i] && l.toList.set i true == (l.setIfInBounds i true).toList) = true) (hd : i ∉ ds)
    (h : ∀ K : Act → World → Prop, Shut (∀ a' w', S w' → (S w' → wpAnyLast P md ops Q S ds fuel (l.setIfInBounds i true) a' w') → K a' w') → if Region.wanted oi (yielded ops a.tmps) = true then Oper.wp P oi a w K Q else K (a.put N undef) w) :
    wpAnyLast P md ops Q S ds (fuel + 1) l a w := one_ _ hi hN (one_of hT hc) hd h
theorem oneGoes_ (i : Nat) (hT : rtab md ops = T) (hi : ops[i]? = some oi) (hN : oi.dst = N) (hc : (readyT T.2 l.toList == [i] && l.toList.set i true == (l.setIfInBounds i true).toList) = true) (hd : i ∉ ds)
    {f : FuncId} {fn : Func} {asl : Array Operand} {ts : Array TypeId} (hf : P.funcs[f]? = some fn) (hname : (fn.name == "runtime.NumGoroutine") = false) (hb : fn.body.isSome = true) (args : Array Value) (hw : Region.wanted oi (yielded ops a.tmps) = true) (hop : oi.op = .call { callee := .value (.func f), args := asl, argTypes := ts }) (hargs : asl.map a.eval = args)
    (h : Calls P f args w fun e w' => ∃ v, e = .returned v ∧ S w' ∧ (S w' → wpAnyLast P md ops Q S ds fuel (l.setIfInBounds i true) (a.put N v) w')) : wpAnyLast P md ops Q S ds (fuel + 1) l a w :=
  oneS_ i hT hi hN hc hd (fun K hK => goes_ hf hname hb args hw hN hop hargs (h.mono (fun e w' hh => by
    obtain ⟨v, he, hS, hk⟩ := hh
    exact ⟨v, he, hK.out _ _ hS hk⟩)))
end
set_option maxHeartbeats 3200000 in
set_option maxRecDepth 100000 in
theorem runs_big (R : List S42) (E : List S80) (A0 A1 A2 A3 : Option Addr) (c0 c1 c2 c3 : Nat) (ch li : List Int) (w : World) (hr0 : Kd.C k42 w A0 R.length R) (hc0 : R.length ≤ c0) (hr1 : Kd.C k80 w A1 E.length E) (hc1 : E.length ≤ c1) (hS : lw_small.f R E = some false) :
    Calls Try.prog 12 #[.agg #[.slice A0 R.length c0, .slice A1 E.length c1], .slice A2 ch.length c2, .slice A3 li.length c3] w fun e w' => e = .returned (.bool true) ∧ Below w.heap.size w w' := by
  have HR0 := Aside0.mk hr0
  have HR1 := Aside0.mk hr1
  have HC0 := Aside0.mk hc0
  have HC1 := Aside0.mk hc1
  have HS := Aside0.mk hS
  clear hr0 hc0 hr1 hc1 hS
  go_enter Try.func12, Try.ntmps12
  go_wp2_with (first
        | ((with_reducible refine gate_dst (N := 3) rfl ?_); refine box_event ?hg (N := 3) ?hd (cs := #[.slice A0 R.length c0, .slice A1 E.length c1]) (t := 25) ?hr ?_; (case hd => rfl); (case hg => rfl); (case hr => first | (go_simp; done) | (go_simp; rfl)); intro gb hg w3 hbox hb; have HB3 := Aside0.mk hb; have BX3 := Aside0.mk hbox; clear hb hbox hg)
        | (go_at_call 15; refine (lw_sane.calls true _ rfl).mono ?_; rintro e w4 ⟨rfl, hb⟩; have HB4 := Aside0.mk (below_step HB3.out hb); have BX4 := Aside0.mk (blk_below BX3.out hb); have p0 : w4.cell? ⟨gb, 0, none⟩ = some (.slice A0 R.length c0) := (blk_cell BX4.out 0).trans rfl; have p1 : w4.cell? ⟨gb, 1, none⟩ = some (.slice A1 E.length c1) := (blk_cell BX4.out 1).trans rfl; have HBE := Aside0.mk HB4.out; clear hb)
        | (go_at_call 16; refine (lw_small.calls A0 c0 R A1 c1 E _ _ (Kd.C_below HR0.out HB4.out) HC0.out (Kd.C_below HR1.out HB4.out) HC1.out HS.out).mono ?_; rintro e w5 ⟨rfl, hb⟩; have HB5 := Aside0.mk (below_step HB4.out hb); have BX5 := Aside0.mk (blk_below BX4.out hb); clear p0 p1; have p0 : w5.cell? ⟨gb, 0, none⟩ = some (.slice A0 R.length c0) := (blk_cell BX5.out 0).trans rfl; have p1 : w5.cell? ⟨gb, 1, none⟩ = some (.slice A1 E.length c1) := (blk_cell BX5.out 1).trans rfl; clear HBE; have HBE := Aside0.mk HB5.out; clear hb))
  go_ret
  exact ⟨rfl, HBE.out⟩
set_option maxHeartbeats 3200000 in
set_option maxRecDepth 100000 in
theorem runs_err (R : List S42) (E : List S80) (A0 A1 A2 A3 : Option Addr) (c0 c1 c2 c3 : Nat) (ch li : List Int) (w : World) (hr0 : Kd.C k42 w A0 R.length R) (hc0 : R.length ≤ c0) (hr1 : Kd.C k80 w A1 E.length E) (hc1 : E.length ≤ c1) (hr2 : Kd.C (Kd.int .i64) w A2 ch.length ch) (hc2 : ch.length ≤ c2) (hr3 : Kd.C (Kd.int .i64) w A3 li.length li) (hc3 : li.length ≤ c3) (h24 : E.length ≤ 24) (hS : lw_small.f R E = some true) (ct : Int) (hct : dr_CheckCircle.f R E li = some ct) (ts fs cs : List Int) (hru : dr_Run.f R E ch = some (ts, false, 311)) (hea : dr_Earliest.f R E = some (fs, false, 311)) (hci : dr_Circle.f R E = some (cs, false, 311)) :
    Calls Try.prog 12 #[.agg #[.slice A0 R.length c0, .slice A1 E.length c1], .slice A2 ch.length c2, .slice A3 li.length c3] w fun e w' => e = .returned (.bool true) ∧ Below w.heap.size w w' := by
  have HR0 := Aside0.mk hr0
  have HR1 := Aside0.mk hr1
  have HC0 := Aside0.mk hc0
  have HC1 := Aside0.mk hc1
  have HR2 := Aside0.mk hr2
  have HC2 := Aside0.mk hc2
  have HR3 := Aside0.mk hr3
  have HC3 := Aside0.mk hc3
  have HS := Aside0.mk hS
  have HCT := Aside0.mk hct
  have HRU := Aside0.mk hru
  have HEA := Aside0.mk hea
  have HCI := Aside0.mk hci
  clear hru hea hci
  clear hr0 hc0 hr1 hc1 hS hr2 hc2 hr3 hc3 hct
  go_enter Try.func12, Try.ntmps12
  go_wp2_with (first
        | ((with_reducible refine gate_dst (N := 3) rfl ?_); refine box_event ?hg (N := 3) ?hd (cs := #[.slice A0 R.length c0, .slice A1 E.length c1]) (t := 25) ?hr ?_; (case hd => rfl); (case hg => rfl); (case hr => first | (go_simp; done) | (go_simp; rfl)); intro gb hg w3 hbox hb; have HB3 := Aside0.mk hb; have BX3 := Aside0.mk hbox; clear hb hbox hg)
        | (go_at_call 15; refine (lw_sane.calls true _ rfl).mono ?_; rintro e w4 ⟨rfl, hb⟩; have HB4 := Aside0.mk (below_step HB3.out hb); have BX4 := Aside0.mk (blk_below BX3.out hb); have p0 : w4.cell? ⟨gb, 0, none⟩ = some (.slice A0 R.length c0) := (blk_cell BX4.out 0).trans rfl; have p1 : w4.cell? ⟨gb, 1, none⟩ = some (.slice A1 E.length c1) := (blk_cell BX4.out 1).trans rfl; have HBE := Aside0.mk HB4.out; clear hb)
        | (go_at_call 16; refine (lw_small.calls A0 c0 R A1 c1 E _ _ (Kd.C_below HR0.out HB4.out) HC0.out (Kd.C_below HR1.out HB4.out) HC1.out HS.out).mono ?_; rintro e w5 ⟨rfl, hb⟩; have HB5 := Aside0.mk (below_step HB4.out hb); have BX5 := Aside0.mk (blk_below BX4.out hb); clear p0 p1; have p0 : w5.cell? ⟨gb, 0, none⟩ = some (.slice A0 R.length c0) := (blk_cell BX5.out 0).trans rfl; have p1 : w5.cell? ⟨gb, 1, none⟩ = some (.slice A1 E.length c1) := (blk_cell BX5.out 1).trans rfl; clear HBE; have HBE := Aside0.mk HB5.out; clear hb)
        | (go_at_call 49; refine (dr_Run.calls A0 c0 R A1 c1 E A2 c2 ch ts _ _ _ (Kd.C_below HR0.out HB5.out) HC0.out (Kd.C_below HR1.out HB5.out) HC1.out (Kd.C_below HR2.out HB5.out) HC2.out HRU.out).mono ?_; rintro e w6 ⟨v6, rfl, hT, hb⟩; obtain ⟨B6, d6, e6, hd6, hC6⟩ := Kd.R_reads hT; subst e6; have HT6 := Aside0.mk hC6; clear hT hC6; have HB6 := Aside0.mk (below_step HB5.out hb); have BX6 := Aside0.mk (blk_below BX5.out hb); clear p0 p1; have p0 : w6.cell? ⟨gb, 0, none⟩ = some (.slice A0 R.length c0) := (blk_cell BX6.out 0).trans rfl; have p1 : w6.cell? ⟨gb, 1, none⟩ = some (.slice A1 E.length c1) := (blk_cell BX6.out 1).trans rfl; clear HBE; have HBE := Aside0.mk HB6.out; clear hb)
        | (go_at_call 53; refine (rrun_any R E A0 A1 c0 c1 _ (Kd.C_below HR0.out HB6.out) HC0.out (Kd.C_below HR1.out HB6.out) HC1.out h24 A2 c2 ch (Kd.C_below HR2.out HB6.out) ts _ _ HRU.out).mono ?_; rintro e w7 ⟨v7, rfl, hT, hb⟩; obtain ⟨B7, d7, e7, hd7, hC7⟩ := Kd.R_reads hT; subst e7; have HT7 := Aside0.mk hC7; have HT67 := Aside0.mk (Kd.C_below HT6.out hb); clear hT hC7; have HB7 := Aside0.mk (below_step HB6.out hb); have BX7 := Aside0.mk (blk_below BX6.out hb); clear p0 p1; have p0 : w7.cell? ⟨gb, 0, none⟩ = some (.slice A0 R.length c0) := (blk_cell BX7.out 0).trans rfl; have p1 : w7.cell? ⟨gb, 1, none⟩ = some (.slice A1 E.length c1) := (blk_cell BX7.out 1).trans rfl; clear HBE; have HBE := Aside0.mk HB7.out; clear hb))
  refine start_ (n := 30) (S := fun w' => w'.cell? ⟨gb, 0, none⟩ = some (.slice A0 R.length c0) ∧ w'.cell? ⟨gb, 1, none⟩ = some (.slice A1 E.length c1)) (ds := []) (Array.replicate 30 false) (by kernel_rfl) rfl rfl ⟨p0, p1⟩ (fun hHeld => ?_)
  refine with_tabW rn_tab7 rn_bits7 (fun HT_ HW_ => ?_)
  have HB8 := Aside0.mk (below_drew1 HB7.out)
  have BX8 := Aside0.mk (blk_drew BX7.out)
  clear p0 p1
  generalize w7.drew = w8 at HB8 BX8 hHeld ⊢
  (refine pureS_ (N := some 34) 0 HT_.out rfl rfl (by kernel_rfl) (fun _ _ _ h => h) (v := ?_) (a' := ?_) (Or.inl ⟨by kernel_rfl, ?_⟩) ?_ ?_; rotate_left 2; intro w'; go_simp; with_reducible rfl; simp only [Act.put, List.setIfInBounds_toArray, List.set_cons_zero, List.set_cons_succ, i64_w, i32_w]; rfl)
  (refine pureS_ (N := some 35) 1 HT_.out rfl rfl (by kernel_rfl) (fun _ _ _ h => h) (v := ?_) (a' := ?_) (Or.inl ⟨by kernel_rfl, ?_⟩) ?_ ?_; rotate_left 2; intro w'; go_simp; with_reducible rfl; simp only [Act.put, List.setIfInBounds_toArray, List.set_cons_zero, List.set_cons_succ, i64_w, i32_w]; rfl)
  (refine pureS_ (N := some 36) 2 HT_.out rfl rfl (by kernel_rfl) (fun _ _ _ h => h) (v := ?_) (a' := ?_) (Or.inl ⟨by kernel_rfl, ?_⟩) ?_ ?_; rotate_left 2; intro w'; go_simp; with_reducible rfl; simp only [Act.put, List.setIfInBounds_toArray, List.set_cons_zero, List.set_cons_succ, i64_w, i32_w]; rfl)
  (refine pureS_ (N := some 37) 3 HT_.out rfl rfl (by kernel_rfl) (fun _ _ _ h => h) (v := ?_) (a' := ?_) (Or.inl ⟨by kernel_rfl, ?_⟩) ?_ ?_; rotate_left 2; intro w'; go_simp; with_reducible rfl; simp only [Act.put, List.setIfInBounds_toArray, List.set_cons_zero, List.set_cons_succ, i64_w, i32_w]; rfl)
  (refine pureS_ (N := some 38) 4 HT_.out rfl rfl (by kernel_rfl) (fun _ _ _ h => h) (v := ?_) (a' := ?_) (Or.inl ⟨by kernel_rfl, ?_⟩) ?_ ?_; rotate_left 2; intro w'; go_simp; with_reducible rfl; simp only [Act.put, List.setIfInBounds_toArray, List.set_cons_zero, List.set_cons_succ, i64_w, i32_w]; rfl)
  (refine pureS_ (N := some 39) 5 HT_.out rfl rfl (by kernel_rfl) (fun _ _ _ h => h) (v := ?_) (a' := ?_) (Or.inl ⟨by kernel_rfl, ?_⟩) ?_ ?_; rotate_left 2; intro w'; go_simp; with_reducible rfl; simp only [Act.put, List.setIfInBounds_toArray, List.set_cons_zero, List.set_cons_succ, i64_w, i32_w]; rfl)
  (refine pureS_ (N := some 40) 6 HT_.out rfl rfl (by kernel_rfl) (fun _ _ _ h => h) (v := ?_) (a' := ?_) (Or.inl ⟨by kernel_rfl, ?_⟩) ?_ ?_; rotate_left 2; intro w'; go_simp; with_reducible rfl; simp only [Act.put, List.setIfInBounds_toArray, List.set_cons_zero, List.set_cons_succ, i64_w, i32_w]; rfl)
  (refine pureS_ (N := some 41) 7 HT_.out rfl rfl (by kernel_rfl) (fun _ _ _ h => h) (v := undef) (a' := ?_) (Or.inr ⟨by kernel_rfl, rfl⟩) ?_ ?_; rotate_left; simp only [Act.put, List.setIfInBounds_toArray, List.set_cons_zero, List.set_cons_succ, i64_w, i32_w]; rfl)
  (refine pureS_ (N := some 42) 8 HT_.out rfl rfl (by kernel_rfl) (fun _ _ _ h => h) (v := undef) (a' := ?_) (Or.inr ⟨by kernel_rfl, rfl⟩) ?_ ?_; rotate_left; simp only [Act.put, List.setIfInBounds_toArray, List.set_cons_zero, List.set_cons_succ, i64_w, i32_w]; rfl)
  (refine pureS_ (N := some 43) 9 HT_.out rfl rfl (by kernel_rfl) (fun _ _ _ h => h) (v := undef) (a' := ?_) (Or.inr ⟨by kernel_rfl, rfl⟩) ?_ ?_; rotate_left; simp only [Act.put, List.setIfInBounds_toArray, List.set_cons_zero, List.set_cons_succ, i64_w, i32_w]; rfl)
  (refine pureS_ (N := some 44) 10 HT_.out rfl rfl (by kernel_rfl) (fun _ _ _ h => h) (v := undef) (a' := ?_) (Or.inr ⟨by kernel_rfl, rfl⟩) ?_ ?_; rotate_left; simp only [Act.put, List.setIfInBounds_toArray, List.set_cons_zero, List.set_cons_succ, i64_w, i32_w]; rfl)
  (refine pureS_ (N := some 45) 11 HT_.out rfl rfl (by kernel_rfl) (fun _ _ _ h => h) (v := undef) (a' := ?_) (Or.inr ⟨by kernel_rfl, rfl⟩) ?_ ?_; rotate_left; simp only [Act.put, List.setIfInBounds_toArray, List.set_cons_zero, List.set_cons_succ, i64_w, i32_w]; rfl)
  (refine pureS_ (N := some 46) 12 HT_.out rfl rfl (by kernel_rfl) (fun _ _ _ h => h) (v := undef) (a' := ?_) (Or.inr ⟨by kernel_rfl, rfl⟩) ?_ ?_; rotate_left; simp only [Act.put, List.setIfInBounds_toArray, List.set_cons_zero, List.set_cons_succ, i64_w, i32_w]; rfl)
  (refine pureS_ (N := some 47) 13 HT_.out rfl rfl (by kernel_rfl) (fun _ _ _ h => h) (v := undef) (a' := ?_) (Or.inr ⟨by kernel_rfl, rfl⟩) ?_ ?_; rotate_left; simp only [Act.put, List.setIfInBounds_toArray, List.set_cons_zero, List.set_cons_succ, i64_w, i32_w]; rfl)
  (refine pureS_ (N := some 48) 14 HT_.out rfl rfl (by kernel_rfl) (fun _ _ _ h => h) (v := undef) (a' := ?_) (Or.inr ⟨by kernel_rfl, rfl⟩) ?_ ?_; rotate_left; simp only [Act.put, List.setIfInBounds_toArray, List.set_cons_zero, List.set_cons_succ, i64_w, i32_w]; rfl)
  (refine pureS_ (N := some 49) 15 HT_.out rfl rfl (by kernel_rfl) (fun _ _ _ h => h) (v := undef) (a' := ?_) (Or.inr ⟨by kernel_rfl, rfl⟩) ?_ ?_; rotate_left; simp only [Act.put, List.setIfInBounds_toArray, List.set_cons_zero, List.set_cons_succ, i64_w, i32_w]; rfl)
  (refine pureS_ (N := some 50) 16 HT_.out rfl rfl (by kernel_rfl) (fun _ _ _ h => h) (v := undef) (a' := ?_) (Or.inr ⟨by kernel_rfl, rfl⟩) ?_ ?_; rotate_left; simp only [Act.put, List.setIfInBounds_toArray, List.set_cons_zero, List.set_cons_succ, i64_w, i32_w]; rfl)
  (refine pureS_ (N := some 51) 17 HT_.out rfl rfl (by kernel_rfl) (fun _ _ _ h => h) (v := undef) (a' := ?_) (Or.inr ⟨by kernel_rfl, rfl⟩) ?_ ?_; rotate_left; simp only [Act.put, List.setIfInBounds_toArray, List.set_cons_zero, List.set_cons_succ, i64_w, i32_w]; rfl)
  (refine pureS_ (N := some 52) 18 HT_.out rfl rfl (by kernel_rfl) (fun _ _ _ h => h) (v := undef) (a' := ?_) (Or.inr ⟨by kernel_rfl, rfl⟩) ?_ ?_; rotate_left; simp only [Act.put, List.setIfInBounds_toArray, List.set_cons_zero, List.set_cons_succ, i64_w, i32_w]; rfl)
  (refine pureS_ (N := some 53) 19 HT_.out rfl rfl (by kernel_rfl) (fun _ _ _ h => h) (v := ?_) (a' := ?_) (Or.inl ⟨by kernel_rfl, ?_⟩) ?_ ?_; rotate_left 2; intro w'; go_simp; with_reducible rfl; simp only [Act.put, List.setIfInBounds_toArray, List.set_cons_zero, List.set_cons_succ, i64_w, i32_w]; rfl)
  (refine pureS_ (N := some 54) 20 HT_.out rfl rfl (by kernel_rfl) (fun _ _ _ h => h) (v := ?_) (a' := ?_) (Or.inl ⟨by kernel_rfl, ?_⟩) ?_ ?_; rotate_left 2; intro w'; go_simp; with_reducible rfl; simp only [Act.put, List.setIfInBounds_toArray, List.set_cons_zero, List.set_cons_succ, i64_w, i32_w]; rfl)
  (refine pureS_ (N := some 55) 21 HT_.out rfl rfl (by kernel_rfl) (fun _ _ _ h => h) (v := ?_) (a' := ?_) (Or.inl ⟨by kernel_rfl, ?_⟩) ?_ ?_; rotate_left 2; intro w'; go_simp; with_reducible rfl; simp only [Act.put, List.setIfInBounds_toArray, List.set_cons_zero, List.set_cons_succ, i64_w, i32_w]; rfl)
  (refine pureS_ (N := some 57) 23 HT_.out rfl rfl (by kernel_rfl) (fun _ _ _ h => h) (v := ?_) (a' := ?_) (Or.inl ⟨by kernel_rfl, ?_⟩) ?_ ?_; rotate_left 2; intro w'; go_simp; with_reducible rfl; simp only [Act.put, List.setIfInBounds_toArray, List.set_cons_zero, List.set_cons_succ, i64_w, i32_w]; rfl)
  (refine pureS_ (N := some 60) 26 HT_.out rfl rfl (by kernel_rfl) (fun _ _ _ h => h) (v := ?_) (a' := ?_) (Or.inl ⟨by kernel_rfl, ?_⟩) ?_ ?_; rotate_left 2; intro w'; go_simp; with_reducible rfl; simp only [Act.put, List.setIfInBounds_toArray, List.set_cons_zero, List.set_cons_succ, i64_w, i32_w]; rfl)
  (refine takeS_ (N := some 56) 22 HT_.out HW_.out rfl rfl (by kernel_rfl) (fun _ _ _ h => h) (v := ?_) (a' := ?_) (Or.inl ⟨by kernel_rfl, ?_⟩) hHeld ?_ ?_; rotate_left 2; rintro w' ⟨s0, s1⟩; go_simp; with_reducible rfl; simp only [Act.put, List.setIfInBounds_toArray, List.set_cons_zero, List.set_cons_succ, i64_w, i32_w]; rfl)
  (refine takeS_ (N := some 59) 25 HT_.out HW_.out rfl rfl (by kernel_rfl) (fun _ _ _ h => h) (v := ?_) (a' := ?_) (Or.inl ⟨by kernel_rfl, ?_⟩) hHeld ?_ ?_; rotate_left 2; rintro w' ⟨s0, s1⟩; go_simp; with_reducible rfl; simp only [Act.put, List.setIfInBounds_toArray, List.set_cons_zero, List.set_cons_succ, i64_w, i32_w]; rfl)
  refine oneGoes_ (N := some 58) 24 HT_.out rfl rfl (by kernel_rfl) (by decide) Try.func54 (by kernel_rfl) rfl #[.agg #[.slice A0 R.length c0, .slice A1 E.length c1], .slice A3 li.length c3] (by kernel_rfl) rfl (by kernel_rfl) ?_
  refine (dr_CheckCircle.calls A0 c0 R A1 c1 E A3 c3 li ct _ (Kd.C_below HR0.out HB8.out) HC0.out (Kd.C_below HR1.out HB8.out) HC1.out (Kd.C_below HR3.out HB8.out) HC3.out HCT.out).mono ?_
  rintro e w9 ⟨rfl, hb⟩
  have HB9 := Aside0.mk (below_step HB8.out hb)
  have BX9 := Aside0.mk (blk_below BX8.out hb)
  clear hb hHeld
  refine ⟨_, rfl, ⟨(blk_cell BX9.out 0).trans rfl, (blk_cell BX9.out 1).trans rfl⟩, fun hHeld => ?_⟩
  refine norm_ (a' := ?_) ?_ ?_
  rotate_left
  · show Act.put _ (some 58) _ = _
    simp only [Act.put, List.setIfInBounds_toArray, List.set_cons_zero, List.set_cons_succ, i64_w, i32_w]
    rfl
  refine oneGoes_ (N := some 61) 27 HT_.out rfl rfl (by kernel_rfl) (by decide) Try.func55 (by kernel_rfl) rfl #[.agg #[.slice A0 R.length c0, .slice A1 E.length c1], .slice A3 li.length c3] (by kernel_rfl) rfl (by kernel_rfl) ?_
  refine (rcheckcircle_any R E A0 A1 c0 c1 _ (Kd.C_below HR0.out HB9.out) HC0.out (Kd.C_below HR1.out HB9.out) HC1.out h24 A3 c3 li (Kd.C_below HR3.out HB9.out) ct HCT.out).mono ?_
  rintro e wA ⟨rfl, hb⟩
  have HBA := Aside0.mk (below_step HB9.out hb)
  have BXA := Aside0.mk (blk_below BX9.out hb)
  clear hb hHeld
  refine ⟨_, rfl, ⟨(blk_cell BXA.out 0).trans rfl, (blk_cell BXA.out 1).trans rfl⟩, fun hHeld => ?_⟩
  refine norm_ (a' := ?_) ?_ ?_
  rotate_left
  · show Act.put _ (some 61) _ = _
    simp only [Act.put, List.setIfInBounds_toArray, List.set_cons_zero, List.set_cons_succ, i64_w, i32_w]
    rfl
  (refine pureS_ (N := some 62) 28 HT_.out rfl rfl (by kernel_rfl) (fun _ _ _ h => h) (v := ?_) (a' := ?_) (Or.inl ⟨by kernel_rfl, ?_⟩) ?_ ?_; rotate_left 2; intro w'; go_simp; with_reducible rfl; simp only [Act.put, List.setIfInBounds_toArray, List.set_cons_zero, List.set_cons_succ, i64_w, i32_w]; rfl)
  (refine pureS_ (N := some 63) 29 HT_.out rfl rfl (by kernel_rfl) (fun _ _ _ h => h) (v := ?_) (a' := ?_) (Or.inl ⟨by kernel_rfl, ?_⟩) ?_ ?_; rotate_left 2; intro w'; go_simp; with_reducible rfl; simp only [Act.put, List.setIfInBounds_toArray, List.set_cons_zero, List.set_cons_succ, i64_w, i32_w]; rfl)
  refine done_ (done_of HT_.out (by kernel_rfl)) ?_
  have p0 : wA.cell? ⟨gb, 0, none⟩ = some (.slice A0 R.length c0) := (blk_cell BXA.out 0).trans rfl
  have p1 : wA.cell? ⟨gb, 1, none⟩ = some (.slice A1 E.length c1) := (blk_cell BXA.out 1).trans rfl
  go_wp2_with (first
        | (go_at_call 29; refine (dr_Earliest.calls A0 c0 R A1 c1 E fs _ _ _ (Kd.C_below HR0.out HBA.out) HC0.out (Kd.C_below HR1.out HBA.out) HC1.out HEA.out).mono ?_; rintro e wB ⟨vB, rfl, hT, hb⟩; obtain ⟨Bb, db, eb, hdb, hCb⟩ := Kd.R_reads hT; subst eb; have HTB := Aside0.mk hCb; clear hT hCb; have HBB := Aside0.mk (below_step HBA.out hb); have BXB := Aside0.mk (blk_below BXA.out hb); clear p0 p1; have p0 : wB.cell? ⟨gb, 0, none⟩ = some (.slice A0 R.length c0) := (blk_cell BXB.out 0).trans rfl; have p1 : wB.cell? ⟨gb, 1, none⟩ = some (.slice A1 E.length c1) := (blk_cell BXB.out 1).trans rfl; clear HBE; have HBE := Aside0.mk HBB.out; clear hb)
        | (go_at_call 31; refine (rearliest_any R E A0 A1 c0 c1 _ (Kd.C_below HR0.out HBB.out) HC0.out (Kd.C_below HR1.out HBB.out) HC1.out h24 fs _ _ HEA.out).mono ?_; rintro e wC ⟨vC, rfl, hT, hb⟩; obtain ⟨Bc, dc, ec, hdc, hCc⟩ := Kd.R_reads hT; subst ec; have HTC := Aside0.mk hCc; have HTBC := Aside0.mk (Kd.C_below HTB.out hb); clear hT hCc; have HBC := Aside0.mk (below_step HBB.out hb); have BXC := Aside0.mk (blk_below BXB.out hb); clear p0 p1; have p0 : wC.cell? ⟨gb, 0, none⟩ = some (.slice A0 R.length c0) := (blk_cell BXC.out 0).trans rfl; have p1 : wC.cell? ⟨gb, 1, none⟩ = some (.slice A1 E.length c1) := (blk_cell BXC.out 1).trans rfl; clear HBE; have HBE := Aside0.mk HBC.out; clear hb)
        | (go_at_call 56; refine (dr_Circle.calls A0 c0 R A1 c1 E cs _ _ _ (Kd.C_below HR0.out HBC.out) HC0.out (Kd.C_below HR1.out HBC.out) HC1.out HCI.out).mono ?_; rintro e wF ⟨vF, rfl, hT, hb⟩; obtain ⟨Bf, df, ef, hdf, hCf⟩ := Kd.R_reads hT; subst ef; have HTF := Aside0.mk hCf; clear hT hCf; have HBF := Aside0.mk (below_step HBC.out hb); have BXF := Aside0.mk (blk_below BXC.out hb); clear p0 p1; have p0 : wF.cell? ⟨gb, 0, none⟩ = some (.slice A0 R.length c0) := (blk_cell BXF.out 0).trans rfl; have p1 : wF.cell? ⟨gb, 1, none⟩ = some (.slice A1 E.length c1) := (blk_cell BXF.out 1).trans rfl; clear HBE; have HBE := Aside0.mk HBF.out; clear hb))
  go_ret
  exact ⟨rfl, HBE.out⟩
set_option maxHeartbeats 3200000 in
set_option maxRecDepth 100000 in
theorem runs_no_c (R : List S42) (E : List S80) (A0 A1 A2 A3 : Option Addr) (c0 c1 c2 c3 : Nat) (ch li : List Int) (w : World) (hr0 : Kd.C k42 w A0 R.length R) (hc0 : R.length ≤ c0) (hr1 : Kd.C k80 w A1 E.length E) (hc1 : E.length ≤ c1) (hr2 : Kd.C (Kd.int .i64) w A2 ch.length ch) (hc2 : ch.length ≤ c2) (hr3 : Kd.C (Kd.int .i64) w A3 li.length li) (hc3 : li.length ≤ c3) (h24 : E.length ≤ 24) (hS : lw_small.f R E = some true) (ct : Int) (hct : dr_CheckCircle.f R E li = some ct) (ts fs cs : List Int) (hru : dr_Run.f R E ch = some (ts, false, 0)) (hea : dr_Earliest.f R E = some (fs, false, 0)) (hci : dr_Circle.f R E = some (cs, true, 0)) (hcc : dr_CheckCircle.f R E cs = some 0) :
    Calls Try.prog 12 #[.agg #[.slice A0 R.length c0, .slice A1 E.length c1], .slice A2 ch.length c2, .slice A3 li.length c3] w fun e w' => e = .returned (.bool true) ∧ Below w.heap.size w w' := by
  have HR0 := Aside0.mk hr0
  have HR1 := Aside0.mk hr1
  have HC0 := Aside0.mk hc0
  have HC1 := Aside0.mk hc1
  have HR2 := Aside0.mk hr2
  have HC2 := Aside0.mk hc2
  have HR3 := Aside0.mk hr3
  have HC3 := Aside0.mk hc3
  have HS := Aside0.mk hS
  have HCT := Aside0.mk hct
  have HRU := Aside0.mk hru
  have HEA := Aside0.mk hea
  have HCI := Aside0.mk hci
  have HCC := Aside0.mk hcc
  clear hru hea hci hcc
  clear hr0 hc0 hr1 hc1 hS hr2 hc2 hr3 hc3 hct
  go_enter Try.func12, Try.ntmps12
  go_wp2_with (first
        | ((with_reducible refine gate_dst (N := 3) rfl ?_); refine box_event ?hg (N := 3) ?hd (cs := #[.slice A0 R.length c0, .slice A1 E.length c1]) (t := 25) ?hr ?_; (case hd => rfl); (case hg => rfl); (case hr => first | (go_simp; done) | (go_simp; rfl)); intro gb hg w3 hbox hb; have HB3 := Aside0.mk hb; have BX3 := Aside0.mk hbox; clear hb hbox hg)
        | (go_at_call 15; refine (lw_sane.calls true _ rfl).mono ?_; rintro e w4 ⟨rfl, hb⟩; have HB4 := Aside0.mk (below_step HB3.out hb); have BX4 := Aside0.mk (blk_below BX3.out hb); have p0 : w4.cell? ⟨gb, 0, none⟩ = some (.slice A0 R.length c0) := (blk_cell BX4.out 0).trans rfl; have p1 : w4.cell? ⟨gb, 1, none⟩ = some (.slice A1 E.length c1) := (blk_cell BX4.out 1).trans rfl; have HBE := Aside0.mk HB4.out; clear hb)
        | (go_at_call 16; refine (lw_small.calls A0 c0 R A1 c1 E _ _ (Kd.C_below HR0.out HB4.out) HC0.out (Kd.C_below HR1.out HB4.out) HC1.out HS.out).mono ?_; rintro e w5 ⟨rfl, hb⟩; have HB5 := Aside0.mk (below_step HB4.out hb); have BX5 := Aside0.mk (blk_below BX4.out hb); clear p0 p1; have p0 : w5.cell? ⟨gb, 0, none⟩ = some (.slice A0 R.length c0) := (blk_cell BX5.out 0).trans rfl; have p1 : w5.cell? ⟨gb, 1, none⟩ = some (.slice A1 E.length c1) := (blk_cell BX5.out 1).trans rfl; clear HBE; have HBE := Aside0.mk HB5.out; clear hb)
        | (go_at_call 49; refine (dr_Run.calls A0 c0 R A1 c1 E A2 c2 ch ts _ _ _ (Kd.C_below HR0.out HB5.out) HC0.out (Kd.C_below HR1.out HB5.out) HC1.out (Kd.C_below HR2.out HB5.out) HC2.out HRU.out).mono ?_; rintro e w6 ⟨v6, rfl, hT, hb⟩; obtain ⟨B6, d6, e6, hd6, hC6⟩ := Kd.R_reads hT; subst e6; have HT6 := Aside0.mk hC6; clear hT hC6; have HB6 := Aside0.mk (below_step HB5.out hb); have BX6 := Aside0.mk (blk_below BX5.out hb); clear p0 p1; have p0 : w6.cell? ⟨gb, 0, none⟩ = some (.slice A0 R.length c0) := (blk_cell BX6.out 0).trans rfl; have p1 : w6.cell? ⟨gb, 1, none⟩ = some (.slice A1 E.length c1) := (blk_cell BX6.out 1).trans rfl; clear HBE; have HBE := Aside0.mk HB6.out; clear hb)
        | (go_at_call 53; refine (rrun_any R E A0 A1 c0 c1 _ (Kd.C_below HR0.out HB6.out) HC0.out (Kd.C_below HR1.out HB6.out) HC1.out h24 A2 c2 ch (Kd.C_below HR2.out HB6.out) ts _ _ HRU.out).mono ?_; rintro e w7 ⟨v7, rfl, hT, hb⟩; obtain ⟨B7, d7, e7, hd7, hC7⟩ := Kd.R_reads hT; subst e7; have HT7 := Aside0.mk hC7; have HT67 := Aside0.mk (Kd.C_below HT6.out hb); clear hT hC7; have HB7 := Aside0.mk (below_step HB6.out hb); have BX7 := Aside0.mk (blk_below BX6.out hb); clear p0 p1; have p0 : w7.cell? ⟨gb, 0, none⟩ = some (.slice A0 R.length c0) := (blk_cell BX7.out 0).trans rfl; have p1 : w7.cell? ⟨gb, 1, none⟩ = some (.slice A1 E.length c1) := (blk_cell BX7.out 1).trans rfl; clear HBE; have HBE := Aside0.mk HB7.out; clear hb))
  refine start_ (n := 30) (S := fun w' => w'.cell? ⟨gb, 0, none⟩ = some (.slice A0 R.length c0) ∧ w'.cell? ⟨gb, 1, none⟩ = some (.slice A1 E.length c1)) (ds := []) (Array.replicate 30 false) (by kernel_rfl) rfl rfl ⟨p0, p1⟩ (fun hHeld => ?_)
  refine with_tabW rn_tab7 rn_bits7 (fun HT_ HW_ => ?_)
  have HB8 := Aside0.mk (below_drew1 HB7.out)
  have BX8 := Aside0.mk (blk_drew BX7.out)
  clear p0 p1
  generalize w7.drew = w8 at HB8 BX8 hHeld ⊢
  (refine pureS_ (N := some 34) 0 HT_.out rfl rfl (by kernel_rfl) (fun _ _ _ h => h) (v := ?_) (a' := ?_) (Or.inl ⟨by kernel_rfl, ?_⟩) ?_ ?_; rotate_left 2; intro w'; go_simp; with_reducible rfl; simp only [Act.put, List.setIfInBounds_toArray, List.set_cons_zero, List.set_cons_succ, i64_w, i32_w]; rfl)
  (refine pureS_ (N := some 35) 1 HT_.out rfl rfl (by kernel_rfl) (fun _ _ _ h => h) (v := ?_) (a' := ?_) (Or.inl ⟨by kernel_rfl, ?_⟩) ?_ ?_; rotate_left 2; intro w'; go_simp; with_reducible rfl; simp only [Act.put, List.setIfInBounds_toArray, List.set_cons_zero, List.set_cons_succ, i64_w, i32_w]; rfl)
  (refine pureS_ (N := some 36) 2 HT_.out rfl rfl (by kernel_rfl) (fun _ _ _ h => h) (v := ?_) (a' := ?_) (Or.inl ⟨by kernel_rfl, ?_⟩) ?_ ?_; rotate_left 2; intro w'; go_simp; with_reducible rfl; simp only [Act.put, List.setIfInBounds_toArray, List.set_cons_zero, List.set_cons_succ, i64_w, i32_w]; rfl)
  (refine pureS_ (N := some 37) 3 HT_.out rfl rfl (by kernel_rfl) (fun _ _ _ h => h) (v := ?_) (a' := ?_) (Or.inl ⟨by kernel_rfl, ?_⟩) ?_ ?_; rotate_left 2; intro w'; go_simp; with_reducible rfl; simp only [Act.put, List.setIfInBounds_toArray, List.set_cons_zero, List.set_cons_succ, i64_w, i32_w]; rfl)
  (refine pureS_ (N := some 38) 4 HT_.out rfl rfl (by kernel_rfl) (fun _ _ _ h => h) (v := ?_) (a' := ?_) (Or.inl ⟨by kernel_rfl, ?_⟩) ?_ ?_; rotate_left 2; intro w'; go_simp; with_reducible rfl; simp only [Act.put, List.setIfInBounds_toArray, List.set_cons_zero, List.set_cons_succ, i64_w, i32_w]; rfl)
  (refine pureS_ (N := some 39) 5 HT_.out rfl rfl (by kernel_rfl) (fun _ _ _ h => h) (v := ?_) (a' := ?_) (Or.inl ⟨by kernel_rfl, ?_⟩) ?_ ?_; rotate_left 2; intro w'; go_simp; with_reducible rfl; simp only [Act.put, List.setIfInBounds_toArray, List.set_cons_zero, List.set_cons_succ, i64_w, i32_w]; rfl)
  (refine pureS_ (N := some 40) 6 HT_.out rfl rfl (by kernel_rfl) (fun _ _ _ h => h) (v := ?_) (a' := ?_) (Or.inl ⟨by kernel_rfl, ?_⟩) ?_ ?_; rotate_left 2; intro w'; go_simp; with_reducible rfl; simp only [Act.put, List.setIfInBounds_toArray, List.set_cons_zero, List.set_cons_succ, i64_w, i32_w]; rfl)
  (refine pureS_ (N := some 41) 7 HT_.out rfl rfl (by kernel_rfl) (fun _ _ _ h => h) (v := ?_) (a' := ?_) (Or.inl ⟨by kernel_rfl, ?_⟩) ?_ ?_; rotate_left 2; intro w'; go_simp; with_reducible rfl; simp only [Act.put, List.setIfInBounds_toArray, List.set_cons_zero, List.set_cons_succ, i64_w, i32_w]; rfl)
  (refine pureS_ (N := some 42) 8 HT_.out rfl rfl (by kernel_rfl) (fun _ _ _ h => h) (v := ?_) (a' := ?_) (Or.inl ⟨by kernel_rfl, ?_⟩) ?_ ?_; rotate_left 2; intro w'; go_simp; with_reducible rfl; simp only [Act.put, List.setIfInBounds_toArray, List.set_cons_zero, List.set_cons_succ, i64_w, i32_w]; rfl)
  (refine pureS_ (N := some 43) 9 HT_.out rfl rfl (by kernel_rfl) (fun _ _ _ h => h) (v := ?_) (a' := ?_) (Or.inl ⟨by kernel_rfl, ?_⟩) ?_ ?_; rotate_left 2; intro w'; go_simp; with_reducible rfl; simp only [Act.put, List.setIfInBounds_toArray, List.set_cons_zero, List.set_cons_succ, i64_w, i32_w]; rfl)
  (refine pureS_ (N := some 44) 10 HT_.out rfl rfl (by kernel_rfl) (fun _ _ _ h => h) (v := ?_) (a' := ?_) (Or.inl ⟨by kernel_rfl, ?_⟩) ?_ ?_; rotate_left 2; intro w'; go_simp; with_reducible rfl; simp only [Act.put, List.setIfInBounds_toArray, List.set_cons_zero, List.set_cons_succ, i64_w, i32_w]; rfl)
  (refine pureS_ (N := some 45) 11 HT_.out rfl rfl (by kernel_rfl) (fun _ _ _ h => h) (v := ?_) (a' := ?_) (Or.inl ⟨by kernel_rfl, ?_⟩) ?_ ?_; rotate_left 2; intro w'; go_simp; with_reducible rfl; simp only [Act.put, List.setIfInBounds_toArray, List.set_cons_zero, List.set_cons_succ, i64_w, i32_w]; rfl)
  (refine pureS_ (N := some 46) 12 HT_.out rfl rfl (by kernel_rfl) (fun _ _ _ h => h) (v := ?_) (a' := ?_) (Or.inl ⟨by kernel_rfl, ?_⟩) ?_ ?_; rotate_left 2; intro w'; go_simp; with_reducible rfl; simp only [Act.put, List.setIfInBounds_toArray, List.set_cons_zero, List.set_cons_succ, i64_w, i32_w]; rfl)
  (refine pureS_ (N := some 47) 13 HT_.out rfl rfl (by kernel_rfl) (fun _ _ _ h => h) (v := undef) (a' := ?_) (Or.inr ⟨by kernel_rfl, rfl⟩) ?_ ?_; rotate_left; simp only [Act.put, List.setIfInBounds_toArray, List.set_cons_zero, List.set_cons_succ, i64_w, i32_w]; rfl)
  (refine pureS_ (N := some 48) 14 HT_.out rfl rfl (by kernel_rfl) (fun _ _ _ h => h) (v := undef) (a' := ?_) (Or.inr ⟨by kernel_rfl, rfl⟩) ?_ ?_; rotate_left; simp only [Act.put, List.setIfInBounds_toArray, List.set_cons_zero, List.set_cons_succ, i64_w, i32_w]; rfl)
  (refine pureS_ (N := some 49) 15 HT_.out rfl rfl (by kernel_rfl) (fun _ _ _ h => h) (v := undef) (a' := ?_) (Or.inr ⟨by kernel_rfl, rfl⟩) ?_ ?_; rotate_left; simp only [Act.put, List.setIfInBounds_toArray, List.set_cons_zero, List.set_cons_succ, i64_w, i32_w]; rfl)
  (refine pureS_ (N := some 50) 16 HT_.out rfl rfl (by kernel_rfl) (fun _ _ _ h => h) (v := undef) (a' := ?_) (Or.inr ⟨by kernel_rfl, rfl⟩) ?_ ?_; rotate_left; simp only [Act.put, List.setIfInBounds_toArray, List.set_cons_zero, List.set_cons_succ, i64_w, i32_w]; rfl)
  (refine pureS_ (N := some 51) 17 HT_.out rfl rfl (by kernel_rfl) (fun _ _ _ h => h) (v := ?_) (a' := ?_) (Or.inl ⟨by kernel_rfl, ?_⟩) ?_ ?_; rotate_left 2; intro w'; go_simp; with_reducible rfl; simp only [Act.put, List.setIfInBounds_toArray, List.set_cons_zero, List.set_cons_succ, i64_w, i32_w]; rfl)
  (refine pureS_ (N := some 52) 18 HT_.out rfl rfl (by kernel_rfl) (fun _ _ _ h => h) (v := ?_) (a' := ?_) (Or.inl ⟨by kernel_rfl, ?_⟩) ?_ ?_; rotate_left 2; intro w'; go_simp; with_reducible rfl; simp only [Act.put, List.setIfInBounds_toArray, List.set_cons_zero, List.set_cons_succ, i64_w, i32_w]; rfl)
  (refine pureS_ (N := some 53) 19 HT_.out rfl rfl (by kernel_rfl) (fun _ _ _ h => h) (v := ?_) (a' := ?_) (Or.inl ⟨by kernel_rfl, ?_⟩) ?_ ?_; rotate_left 2; intro w'; go_simp; with_reducible rfl; simp only [Act.put, List.setIfInBounds_toArray, List.set_cons_zero, List.set_cons_succ, i64_w, i32_w]; rfl)
  (refine pureS_ (N := some 54) 20 HT_.out rfl rfl (by kernel_rfl) (fun _ _ _ h => h) (v := ?_) (a' := ?_) (Or.inl ⟨by kernel_rfl, ?_⟩) ?_ ?_; rotate_left 2; intro w'; go_simp; with_reducible rfl; simp only [Act.put, List.setIfInBounds_toArray, List.set_cons_zero, List.set_cons_succ, i64_w, i32_w]; rfl)
  (refine pureS_ (N := some 55) 21 HT_.out rfl rfl (by kernel_rfl) (fun _ _ _ h => h) (v := ?_) (a' := ?_) (Or.inl ⟨by kernel_rfl, ?_⟩) ?_ ?_; rotate_left 2; intro w'; go_simp; with_reducible rfl; simp only [Act.put, List.setIfInBounds_toArray, List.set_cons_zero, List.set_cons_succ, i64_w, i32_w]; rfl)
  (refine pureS_ (N := some 57) 23 HT_.out rfl rfl (by kernel_rfl) (fun _ _ _ h => h) (v := ?_) (a' := ?_) (Or.inl ⟨by kernel_rfl, ?_⟩) ?_ ?_; rotate_left 2; intro w'; go_simp; with_reducible rfl; simp only [Act.put, List.setIfInBounds_toArray, List.set_cons_zero, List.set_cons_succ, i64_w, i32_w]; rfl)
  (refine pureS_ (N := some 60) 26 HT_.out rfl rfl (by kernel_rfl) (fun _ _ _ h => h) (v := ?_) (a' := ?_) (Or.inl ⟨by kernel_rfl, ?_⟩) ?_ ?_; rotate_left 2; intro w'; go_simp; with_reducible rfl; simp only [Act.put, List.setIfInBounds_toArray, List.set_cons_zero, List.set_cons_succ, i64_w, i32_w]; rfl)
  (refine takeS_ (N := some 56) 22 HT_.out HW_.out rfl rfl (by kernel_rfl) (fun _ _ _ h => h) (v := ?_) (a' := ?_) (Or.inl ⟨by kernel_rfl, ?_⟩) hHeld ?_ ?_; rotate_left 2; rintro w' ⟨s0, s1⟩; go_simp; with_reducible rfl; simp only [Act.put, List.setIfInBounds_toArray, List.set_cons_zero, List.set_cons_succ, i64_w, i32_w]; rfl)
  (refine takeS_ (N := some 59) 25 HT_.out HW_.out rfl rfl (by kernel_rfl) (fun _ _ _ h => h) (v := ?_) (a' := ?_) (Or.inl ⟨by kernel_rfl, ?_⟩) hHeld ?_ ?_; rotate_left 2; rintro w' ⟨s0, s1⟩; go_simp; with_reducible rfl; simp only [Act.put, List.setIfInBounds_toArray, List.set_cons_zero, List.set_cons_succ, i64_w, i32_w]; rfl)
  refine oneGoes_ (N := some 58) 24 HT_.out rfl rfl (by kernel_rfl) (by decide) Try.func54 (by kernel_rfl) rfl #[.agg #[.slice A0 R.length c0, .slice A1 E.length c1], .slice A3 li.length c3] (by kernel_rfl) rfl (by kernel_rfl) ?_
  refine (dr_CheckCircle.calls A0 c0 R A1 c1 E A3 c3 li ct _ (Kd.C_below HR0.out HB8.out) HC0.out (Kd.C_below HR1.out HB8.out) HC1.out (Kd.C_below HR3.out HB8.out) HC3.out HCT.out).mono ?_
  rintro e w9 ⟨rfl, hb⟩
  have HB9 := Aside0.mk (below_step HB8.out hb)
  have BX9 := Aside0.mk (blk_below BX8.out hb)
  clear hb hHeld
  refine ⟨_, rfl, ⟨(blk_cell BX9.out 0).trans rfl, (blk_cell BX9.out 1).trans rfl⟩, fun hHeld => ?_⟩
  refine norm_ (a' := ?_) ?_ ?_
  rotate_left
  · show Act.put _ (some 58) _ = _
    simp only [Act.put, List.setIfInBounds_toArray, List.set_cons_zero, List.set_cons_succ, i64_w, i32_w]
    rfl
  refine oneGoes_ (N := some 61) 27 HT_.out rfl rfl (by kernel_rfl) (by decide) Try.func55 (by kernel_rfl) rfl #[.agg #[.slice A0 R.length c0, .slice A1 E.length c1], .slice A3 li.length c3] (by kernel_rfl) rfl (by kernel_rfl) ?_
  refine (rcheckcircle_any R E A0 A1 c0 c1 _ (Kd.C_below HR0.out HB9.out) HC0.out (Kd.C_below HR1.out HB9.out) HC1.out h24 A3 c3 li (Kd.C_below HR3.out HB9.out) ct HCT.out).mono ?_
  rintro e wA ⟨rfl, hb⟩
  have HBA := Aside0.mk (below_step HB9.out hb)
  have BXA := Aside0.mk (blk_below BX9.out hb)
  clear hb hHeld
  refine ⟨_, rfl, ⟨(blk_cell BXA.out 0).trans rfl, (blk_cell BXA.out 1).trans rfl⟩, fun hHeld => ?_⟩
  refine norm_ (a' := ?_) ?_ ?_
  rotate_left
  · show Act.put _ (some 61) _ = _
    simp only [Act.put, List.setIfInBounds_toArray, List.set_cons_zero, List.set_cons_succ, i64_w, i32_w]
    rfl
  (refine pureS_ (N := some 62) 28 HT_.out rfl rfl (by kernel_rfl) (fun _ _ _ h => h) (v := ?_) (a' := ?_) (Or.inl ⟨by kernel_rfl, ?_⟩) ?_ ?_; rotate_left 2; intro w'; go_simp; with_reducible rfl; simp only [Act.put, List.setIfInBounds_toArray, List.set_cons_zero, List.set_cons_succ, i64_w, i32_w]; rfl)
  (refine pureS_ (N := some 63) 29 HT_.out rfl rfl (by kernel_rfl) (fun _ _ _ h => h) (v := ?_) (a' := ?_) (Or.inl ⟨by kernel_rfl, ?_⟩) ?_ ?_; rotate_left 2; intro w'; go_simp; with_reducible rfl; simp only [Act.put, List.setIfInBounds_toArray, List.set_cons_zero, List.set_cons_succ, i64_w, i32_w]; rfl)
  refine done_ (done_of HT_.out (by kernel_rfl)) ?_
  have p0 : wA.cell? ⟨gb, 0, none⟩ = some (.slice A0 R.length c0) := (blk_cell BXA.out 0).trans rfl
  have p1 : wA.cell? ⟨gb, 1, none⟩ = some (.slice A1 E.length c1) := (blk_cell BXA.out 1).trans rfl
  go_wp2_with (first
        | (go_at_call 29; refine (dr_Earliest.calls A0 c0 R A1 c1 E fs _ _ _ (Kd.C_below HR0.out HBA.out) HC0.out (Kd.C_below HR1.out HBA.out) HC1.out HEA.out).mono ?_; rintro e wB ⟨vB, rfl, hT, hb⟩; obtain ⟨Bb, db, eb, hdb, hCb⟩ := Kd.R_reads hT; subst eb; have HTB := Aside0.mk hCb; clear hT hCb; have HBB := Aside0.mk (below_step HBA.out hb); have BXB := Aside0.mk (blk_below BXA.out hb); clear p0 p1; have p0 : wB.cell? ⟨gb, 0, none⟩ = some (.slice A0 R.length c0) := (blk_cell BXB.out 0).trans rfl; have p1 : wB.cell? ⟨gb, 1, none⟩ = some (.slice A1 E.length c1) := (blk_cell BXB.out 1).trans rfl; clear HBE; have HBE := Aside0.mk HBB.out; clear hb)
        | (go_at_call 31; refine (rearliest_any R E A0 A1 c0 c1 _ (Kd.C_below HR0.out HBB.out) HC0.out (Kd.C_below HR1.out HBB.out) HC1.out h24 fs _ _ HEA.out).mono ?_; rintro e wC ⟨vC, rfl, hT, hb⟩; obtain ⟨Bc, dc, ec, hdc, hCc⟩ := Kd.R_reads hT; subst ec; have HTC := Aside0.mk hCc; have HTBC := Aside0.mk (Kd.C_below HTB.out hb); clear hT hCc; have HBC := Aside0.mk (below_step HBB.out hb); have BXC := Aside0.mk (blk_below BXB.out hb); clear p0 p1; have p0 : wC.cell? ⟨gb, 0, none⟩ = some (.slice A0 R.length c0) := (blk_cell BXC.out 0).trans rfl; have p1 : wC.cell? ⟨gb, 1, none⟩ = some (.slice A1 E.length c1) := (blk_cell BXC.out 1).trans rfl; clear HBE; have HBE := Aside0.mk HBC.out; clear hb)
        | (go_at_call 56; refine (dr_Circle.calls A0 c0 R A1 c1 E cs _ _ _ (Kd.C_below HR0.out HBC.out) HC0.out (Kd.C_below HR1.out HBC.out) HC1.out HCI.out).mono ?_; rintro e wF ⟨vF, rfl, hT, hb⟩; obtain ⟨Bf, df, ef, hdf, hCf⟩ := Kd.R_reads hT; subst ef; have HTF := Aside0.mk hCf; clear hT hCf; have HBF := Aside0.mk (below_step HBC.out hb); have BXF := Aside0.mk (blk_below BXC.out hb); clear p0 p1; have p0 : wF.cell? ⟨gb, 0, none⟩ = some (.slice A0 R.length c0) := (blk_cell BXF.out 0).trans rfl; have p1 : wF.cell? ⟨gb, 1, none⟩ = some (.slice A1 E.length c1) := (blk_cell BXF.out 1).trans rfl; clear HBE; have HBE := Aside0.mk HBF.out; clear hb)
        | (go_at_call 55; refine (rcheckcircle_any R E A0 A1 c0 c1 _ (Kd.C_below HR0.out HBF.out) HC0.out (Kd.C_below HR1.out HBF.out) HC1.out h24 Bf df cs HTF.out 0 HCC.out).mono ?_; rintro e wG ⟨rfl, hb⟩; have HBG := Aside0.mk (below_step HBF.out hb); have BXG := Aside0.mk (blk_below BXF.out hb); clear p0 p1; have p0 : wG.cell? ⟨gb, 0, none⟩ = some (.slice A0 R.length c0) := (blk_cell BXG.out 0).trans rfl; have p1 : wG.cell? ⟨gb, 1, none⟩ = some (.slice A1 E.length c1) := (blk_cell BXG.out 1).trans rfl; clear HBE; have HBE := Aside0.mk HBG.out; clear hb))
  go_ret
  exact ⟨rfl, HBE.out⟩
set_option maxHeartbeats 3200000 in
set_option maxRecDepth 100000 in
theorem runs_no_e (R : List S42) (E : List S80) (A0 A1 A2 A3 : Option Addr) (c0 c1 c2 c3 : Nat) (ch li : List Int) (w : World) (hr0 : Kd.C k42 w A0 R.length R) (hc0 : R.length ≤ c0) (hr1 : Kd.C k80 w A1 E.length E) (hc1 : E.length ≤ c1) (hr2 : Kd.C (Kd.int .i64) w A2 ch.length ch) (hc2 : ch.length ≤ c2) (hr3 : Kd.C (Kd.int .i64) w A3 li.length li) (hc3 : li.length ≤ c3) (h24 : E.length ≤ 24) (hS : lw_small.f R E = some true) (ct : Int) (hct : dr_CheckCircle.f R E li = some ct) (ts fs cs : List Int) (hru : dr_Run.f R E ch = some (ts, false, 0)) (hea : dr_Earliest.f R E = some (fs, true, 0)) (hci : dr_Circle.f R E = some (cs, false, 0)) (hsf : rf_SameInts.f (fs.length + 1) fs fs = some true) :
    Calls Try.prog 12 #[.agg #[.slice A0 R.length c0, .slice A1 E.length c1], .slice A2 ch.length c2, .slice A3 li.length c3] w fun e w' => e = .returned (.bool true) ∧ Below w.heap.size w w' := by
  have HR0 := Aside0.mk hr0
  have HR1 := Aside0.mk hr1
  have HC0 := Aside0.mk hc0
  have HC1 := Aside0.mk hc1
  have HR2 := Aside0.mk hr2
  have HC2 := Aside0.mk hc2
  have HR3 := Aside0.mk hr3
  have HC3 := Aside0.mk hc3
  have HS := Aside0.mk hS
  have HCT := Aside0.mk hct
  have HRU := Aside0.mk hru
  have HEA := Aside0.mk hea
  have HCI := Aside0.mk hci
  have HSF := Aside0.mk hsf
  clear hru hea hci hsf
  clear hr0 hc0 hr1 hc1 hS hr2 hc2 hr3 hc3 hct
  go_enter Try.func12, Try.ntmps12
  go_wp2_with (first
        | ((with_reducible refine gate_dst (N := 3) rfl ?_); refine box_event ?hg (N := 3) ?hd (cs := #[.slice A0 R.length c0, .slice A1 E.length c1]) (t := 25) ?hr ?_; (case hd => rfl); (case hg => rfl); (case hr => first | (go_simp; done) | (go_simp; rfl)); intro gb hg w3 hbox hb; have HB3 := Aside0.mk hb; have BX3 := Aside0.mk hbox; clear hb hbox hg)
        | (go_at_call 15; refine (lw_sane.calls true _ rfl).mono ?_; rintro e w4 ⟨rfl, hb⟩; have HB4 := Aside0.mk (below_step HB3.out hb); have BX4 := Aside0.mk (blk_below BX3.out hb); have p0 : w4.cell? ⟨gb, 0, none⟩ = some (.slice A0 R.length c0) := (blk_cell BX4.out 0).trans rfl; have p1 : w4.cell? ⟨gb, 1, none⟩ = some (.slice A1 E.length c1) := (blk_cell BX4.out 1).trans rfl; have HBE := Aside0.mk HB4.out; clear hb)
        | (go_at_call 16; refine (lw_small.calls A0 c0 R A1 c1 E _ _ (Kd.C_below HR0.out HB4.out) HC0.out (Kd.C_below HR1.out HB4.out) HC1.out HS.out).mono ?_; rintro e w5 ⟨rfl, hb⟩; have HB5 := Aside0.mk (below_step HB4.out hb); have BX5 := Aside0.mk (blk_below BX4.out hb); clear p0 p1; have p0 : w5.cell? ⟨gb, 0, none⟩ = some (.slice A0 R.length c0) := (blk_cell BX5.out 0).trans rfl; have p1 : w5.cell? ⟨gb, 1, none⟩ = some (.slice A1 E.length c1) := (blk_cell BX5.out 1).trans rfl; clear HBE; have HBE := Aside0.mk HB5.out; clear hb)
        | (go_at_call 49; refine (dr_Run.calls A0 c0 R A1 c1 E A2 c2 ch ts _ _ _ (Kd.C_below HR0.out HB5.out) HC0.out (Kd.C_below HR1.out HB5.out) HC1.out (Kd.C_below HR2.out HB5.out) HC2.out HRU.out).mono ?_; rintro e w6 ⟨v6, rfl, hT, hb⟩; obtain ⟨B6, d6, e6, hd6, hC6⟩ := Kd.R_reads hT; subst e6; have HT6 := Aside0.mk hC6; clear hT hC6; have HB6 := Aside0.mk (below_step HB5.out hb); have BX6 := Aside0.mk (blk_below BX5.out hb); clear p0 p1; have p0 : w6.cell? ⟨gb, 0, none⟩ = some (.slice A0 R.length c0) := (blk_cell BX6.out 0).trans rfl; have p1 : w6.cell? ⟨gb, 1, none⟩ = some (.slice A1 E.length c1) := (blk_cell BX6.out 1).trans rfl; clear HBE; have HBE := Aside0.mk HB6.out; clear hb)
        | (go_at_call 53; refine (rrun_any R E A0 A1 c0 c1 _ (Kd.C_below HR0.out HB6.out) HC0.out (Kd.C_below HR1.out HB6.out) HC1.out h24 A2 c2 ch (Kd.C_below HR2.out HB6.out) ts _ _ HRU.out).mono ?_; rintro e w7 ⟨v7, rfl, hT, hb⟩; obtain ⟨B7, d7, e7, hd7, hC7⟩ := Kd.R_reads hT; subst e7; have HT7 := Aside0.mk hC7; have HT67 := Aside0.mk (Kd.C_below HT6.out hb); clear hT hC7; have HB7 := Aside0.mk (below_step HB6.out hb); have BX7 := Aside0.mk (blk_below BX6.out hb); clear p0 p1; have p0 : w7.cell? ⟨gb, 0, none⟩ = some (.slice A0 R.length c0) := (blk_cell BX7.out 0).trans rfl; have p1 : w7.cell? ⟨gb, 1, none⟩ = some (.slice A1 E.length c1) := (blk_cell BX7.out 1).trans rfl; clear HBE; have HBE := Aside0.mk HB7.out; clear hb))
  refine start_ (n := 30) (S := fun w' => w'.cell? ⟨gb, 0, none⟩ = some (.slice A0 R.length c0) ∧ w'.cell? ⟨gb, 1, none⟩ = some (.slice A1 E.length c1)) (ds := []) (Array.replicate 30 false) (by kernel_rfl) rfl rfl ⟨p0, p1⟩ (fun hHeld => ?_)
  refine with_tabW rn_tab7 rn_bits7 (fun HT_ HW_ => ?_)
  have HB8 := Aside0.mk (below_drew1 HB7.out)
  have BX8 := Aside0.mk (blk_drew BX7.out)
  clear p0 p1
  generalize w7.drew = w8 at HB8 BX8 hHeld ⊢
  (refine pureS_ (N := some 34) 0 HT_.out rfl rfl (by kernel_rfl) (fun _ _ _ h => h) (v := ?_) (a' := ?_) (Or.inl ⟨by kernel_rfl, ?_⟩) ?_ ?_; rotate_left 2; intro w'; go_simp; with_reducible rfl; simp only [Act.put, List.setIfInBounds_toArray, List.set_cons_zero, List.set_cons_succ, i64_w, i32_w]; rfl)
  (refine pureS_ (N := some 35) 1 HT_.out rfl rfl (by kernel_rfl) (fun _ _ _ h => h) (v := ?_) (a' := ?_) (Or.inl ⟨by kernel_rfl, ?_⟩) ?_ ?_; rotate_left 2; intro w'; go_simp; with_reducible rfl; simp only [Act.put, List.setIfInBounds_toArray, List.set_cons_zero, List.set_cons_succ, i64_w, i32_w]; rfl)
  (refine pureS_ (N := some 36) 2 HT_.out rfl rfl (by kernel_rfl) (fun _ _ _ h => h) (v := ?_) (a' := ?_) (Or.inl ⟨by kernel_rfl, ?_⟩) ?_ ?_; rotate_left 2; intro w'; go_simp; with_reducible rfl; simp only [Act.put, List.setIfInBounds_toArray, List.set_cons_zero, List.set_cons_succ, i64_w, i32_w]; rfl)
  (refine pureS_ (N := some 37) 3 HT_.out rfl rfl (by kernel_rfl) (fun _ _ _ h => h) (v := ?_) (a' := ?_) (Or.inl ⟨by kernel_rfl, ?_⟩) ?_ ?_; rotate_left 2; intro w'; go_simp; with_reducible rfl; simp only [Act.put, List.setIfInBounds_toArray, List.set_cons_zero, List.set_cons_succ, i64_w, i32_w]; rfl)
  (refine pureS_ (N := some 38) 4 HT_.out rfl rfl (by kernel_rfl) (fun _ _ _ h => h) (v := ?_) (a' := ?_) (Or.inl ⟨by kernel_rfl, ?_⟩) ?_ ?_; rotate_left 2; intro w'; go_simp; with_reducible rfl; simp only [Act.put, List.setIfInBounds_toArray, List.set_cons_zero, List.set_cons_succ, i64_w, i32_w]; rfl)
  (refine pureS_ (N := some 39) 5 HT_.out rfl rfl (by kernel_rfl) (fun _ _ _ h => h) (v := ?_) (a' := ?_) (Or.inl ⟨by kernel_rfl, ?_⟩) ?_ ?_; rotate_left 2; intro w'; go_simp; with_reducible rfl; simp only [Act.put, List.setIfInBounds_toArray, List.set_cons_zero, List.set_cons_succ, i64_w, i32_w]; rfl)
  (refine pureS_ (N := some 40) 6 HT_.out rfl rfl (by kernel_rfl) (fun _ _ _ h => h) (v := ?_) (a' := ?_) (Or.inl ⟨by kernel_rfl, ?_⟩) ?_ ?_; rotate_left 2; intro w'; go_simp; with_reducible rfl; simp only [Act.put, List.setIfInBounds_toArray, List.set_cons_zero, List.set_cons_succ, i64_w, i32_w]; rfl)
  (refine pureS_ (N := some 41) 7 HT_.out rfl rfl (by kernel_rfl) (fun _ _ _ h => h) (v := ?_) (a' := ?_) (Or.inl ⟨by kernel_rfl, ?_⟩) ?_ ?_; rotate_left 2; intro w'; go_simp; with_reducible rfl; simp only [Act.put, List.setIfInBounds_toArray, List.set_cons_zero, List.set_cons_succ, i64_w, i32_w]; rfl)
  (refine pureS_ (N := some 42) 8 HT_.out rfl rfl (by kernel_rfl) (fun _ _ _ h => h) (v := ?_) (a' := ?_) (Or.inl ⟨by kernel_rfl, ?_⟩) ?_ ?_; rotate_left 2; intro w'; go_simp; with_reducible rfl; simp only [Act.put, List.setIfInBounds_toArray, List.set_cons_zero, List.set_cons_succ, i64_w, i32_w]; rfl)
  (refine pureS_ (N := some 43) 9 HT_.out rfl rfl (by kernel_rfl) (fun _ _ _ h => h) (v := ?_) (a' := ?_) (Or.inl ⟨by kernel_rfl, ?_⟩) ?_ ?_; rotate_left 2; intro w'; go_simp; with_reducible rfl; simp only [Act.put, List.setIfInBounds_toArray, List.set_cons_zero, List.set_cons_succ, i64_w, i32_w]; rfl)
  (refine pureS_ (N := some 44) 10 HT_.out rfl rfl (by kernel_rfl) (fun _ _ _ h => h) (v := ?_) (a' := ?_) (Or.inl ⟨by kernel_rfl, ?_⟩) ?_ ?_; rotate_left 2; intro w'; go_simp; with_reducible rfl; simp only [Act.put, List.setIfInBounds_toArray, List.set_cons_zero, List.set_cons_succ, i64_w, i32_w]; rfl)
  (refine pureS_ (N := some 45) 11 HT_.out rfl rfl (by kernel_rfl) (fun _ _ _ h => h) (v := ?_) (a' := ?_) (Or.inl ⟨by kernel_rfl, ?_⟩) ?_ ?_; rotate_left 2; intro w'; go_simp; with_reducible rfl; simp only [Act.put, List.setIfInBounds_toArray, List.set_cons_zero, List.set_cons_succ, i64_w, i32_w]; rfl)
  (refine pureS_ (N := some 46) 12 HT_.out rfl rfl (by kernel_rfl) (fun _ _ _ h => h) (v := ?_) (a' := ?_) (Or.inl ⟨by kernel_rfl, ?_⟩) ?_ ?_; rotate_left 2; intro w'; go_simp; with_reducible rfl; simp only [Act.put, List.setIfInBounds_toArray, List.set_cons_zero, List.set_cons_succ, i64_w, i32_w]; rfl)
  (refine pureS_ (N := some 47) 13 HT_.out rfl rfl (by kernel_rfl) (fun _ _ _ h => h) (v := undef) (a' := ?_) (Or.inr ⟨by kernel_rfl, rfl⟩) ?_ ?_; rotate_left; simp only [Act.put, List.setIfInBounds_toArray, List.set_cons_zero, List.set_cons_succ, i64_w, i32_w]; rfl)
  (refine pureS_ (N := some 48) 14 HT_.out rfl rfl (by kernel_rfl) (fun _ _ _ h => h) (v := undef) (a' := ?_) (Or.inr ⟨by kernel_rfl, rfl⟩) ?_ ?_; rotate_left; simp only [Act.put, List.setIfInBounds_toArray, List.set_cons_zero, List.set_cons_succ, i64_w, i32_w]; rfl)
  (refine pureS_ (N := some 49) 15 HT_.out rfl rfl (by kernel_rfl) (fun _ _ _ h => h) (v := undef) (a' := ?_) (Or.inr ⟨by kernel_rfl, rfl⟩) ?_ ?_; rotate_left; simp only [Act.put, List.setIfInBounds_toArray, List.set_cons_zero, List.set_cons_succ, i64_w, i32_w]; rfl)
  (refine pureS_ (N := some 50) 16 HT_.out rfl rfl (by kernel_rfl) (fun _ _ _ h => h) (v := undef) (a' := ?_) (Or.inr ⟨by kernel_rfl, rfl⟩) ?_ ?_; rotate_left; simp only [Act.put, List.setIfInBounds_toArray, List.set_cons_zero, List.set_cons_succ, i64_w, i32_w]; rfl)
  (refine pureS_ (N := some 51) 17 HT_.out rfl rfl (by kernel_rfl) (fun _ _ _ h => h) (v := ?_) (a' := ?_) (Or.inl ⟨by kernel_rfl, ?_⟩) ?_ ?_; rotate_left 2; intro w'; go_simp; with_reducible rfl; simp only [Act.put, List.setIfInBounds_toArray, List.set_cons_zero, List.set_cons_succ, i64_w, i32_w]; rfl)
  (refine pureS_ (N := some 52) 18 HT_.out rfl rfl (by kernel_rfl) (fun _ _ _ h => h) (v := ?_) (a' := ?_) (Or.inl ⟨by kernel_rfl, ?_⟩) ?_ ?_; rotate_left 2; intro w'; go_simp; with_reducible rfl; simp only [Act.put, List.setIfInBounds_toArray, List.set_cons_zero, List.set_cons_succ, i64_w, i32_w]; rfl)
  (refine pureS_ (N := some 53) 19 HT_.out rfl rfl (by kernel_rfl) (fun _ _ _ h => h) (v := ?_) (a' := ?_) (Or.inl ⟨by kernel_rfl, ?_⟩) ?_ ?_; rotate_left 2; intro w'; go_simp; with_reducible rfl; simp only [Act.put, List.setIfInBounds_toArray, List.set_cons_zero, List.set_cons_succ, i64_w, i32_w]; rfl)
  (refine pureS_ (N := some 54) 20 HT_.out rfl rfl (by kernel_rfl) (fun _ _ _ h => h) (v := ?_) (a' := ?_) (Or.inl ⟨by kernel_rfl, ?_⟩) ?_ ?_; rotate_left 2; intro w'; go_simp; with_reducible rfl; simp only [Act.put, List.setIfInBounds_toArray, List.set_cons_zero, List.set_cons_succ, i64_w, i32_w]; rfl)
  (refine pureS_ (N := some 55) 21 HT_.out rfl rfl (by kernel_rfl) (fun _ _ _ h => h) (v := ?_) (a' := ?_) (Or.inl ⟨by kernel_rfl, ?_⟩) ?_ ?_; rotate_left 2; intro w'; go_simp; with_reducible rfl; simp only [Act.put, List.setIfInBounds_toArray, List.set_cons_zero, List.set_cons_succ, i64_w, i32_w]; rfl)
  (refine pureS_ (N := some 57) 23 HT_.out rfl rfl (by kernel_rfl) (fun _ _ _ h => h) (v := ?_) (a' := ?_) (Or.inl ⟨by kernel_rfl, ?_⟩) ?_ ?_; rotate_left 2; intro w'; go_simp; with_reducible rfl; simp only [Act.put, List.setIfInBounds_toArray, List.set_cons_zero, List.set_cons_succ, i64_w, i32_w]; rfl)
  (refine pureS_ (N := some 60) 26 HT_.out rfl rfl (by kernel_rfl) (fun _ _ _ h => h) (v := ?_) (a' := ?_) (Or.inl ⟨by kernel_rfl, ?_⟩) ?_ ?_; rotate_left 2; intro w'; go_simp; with_reducible rfl; simp only [Act.put, List.setIfInBounds_toArray, List.set_cons_zero, List.set_cons_succ, i64_w, i32_w]; rfl)
  (refine takeS_ (N := some 56) 22 HT_.out HW_.out rfl rfl (by kernel_rfl) (fun _ _ _ h => h) (v := ?_) (a' := ?_) (Or.inl ⟨by kernel_rfl, ?_⟩) hHeld ?_ ?_; rotate_left 2; rintro w' ⟨s0, s1⟩; go_simp; with_reducible rfl; simp only [Act.put, List.setIfInBounds_toArray, List.set_cons_zero, List.set_cons_succ, i64_w, i32_w]; rfl)
  (refine takeS_ (N := some 59) 25 HT_.out HW_.out rfl rfl (by kernel_rfl) (fun _ _ _ h => h) (v := ?_) (a' := ?_) (Or.inl ⟨by kernel_rfl, ?_⟩) hHeld ?_ ?_; rotate_left 2; rintro w' ⟨s0, s1⟩; go_simp; with_reducible rfl; simp only [Act.put, List.setIfInBounds_toArray, List.set_cons_zero, List.set_cons_succ, i64_w, i32_w]; rfl)
  refine oneGoes_ (N := some 58) 24 HT_.out rfl rfl (by kernel_rfl) (by decide) Try.func54 (by kernel_rfl) rfl #[.agg #[.slice A0 R.length c0, .slice A1 E.length c1], .slice A3 li.length c3] (by kernel_rfl) rfl (by kernel_rfl) ?_
  refine (dr_CheckCircle.calls A0 c0 R A1 c1 E A3 c3 li ct _ (Kd.C_below HR0.out HB8.out) HC0.out (Kd.C_below HR1.out HB8.out) HC1.out (Kd.C_below HR3.out HB8.out) HC3.out HCT.out).mono ?_
  rintro e w9 ⟨rfl, hb⟩
  have HB9 := Aside0.mk (below_step HB8.out hb)
  have BX9 := Aside0.mk (blk_below BX8.out hb)
  clear hb hHeld
  refine ⟨_, rfl, ⟨(blk_cell BX9.out 0).trans rfl, (blk_cell BX9.out 1).trans rfl⟩, fun hHeld => ?_⟩
  refine norm_ (a' := ?_) ?_ ?_
  rotate_left
  · show Act.put _ (some 58) _ = _
    simp only [Act.put, List.setIfInBounds_toArray, List.set_cons_zero, List.set_cons_succ, i64_w, i32_w]
    rfl
  refine oneGoes_ (N := some 61) 27 HT_.out rfl rfl (by kernel_rfl) (by decide) Try.func55 (by kernel_rfl) rfl #[.agg #[.slice A0 R.length c0, .slice A1 E.length c1], .slice A3 li.length c3] (by kernel_rfl) rfl (by kernel_rfl) ?_
  refine (rcheckcircle_any R E A0 A1 c0 c1 _ (Kd.C_below HR0.out HB9.out) HC0.out (Kd.C_below HR1.out HB9.out) HC1.out h24 A3 c3 li (Kd.C_below HR3.out HB9.out) ct HCT.out).mono ?_
  rintro e wA ⟨rfl, hb⟩
  have HBA := Aside0.mk (below_step HB9.out hb)
  have BXA := Aside0.mk (blk_below BX9.out hb)
  clear hb hHeld
  refine ⟨_, rfl, ⟨(blk_cell BXA.out 0).trans rfl, (blk_cell BXA.out 1).trans rfl⟩, fun hHeld => ?_⟩
  refine norm_ (a' := ?_) ?_ ?_
  rotate_left
  · show Act.put _ (some 61) _ = _
    simp only [Act.put, List.setIfInBounds_toArray, List.set_cons_zero, List.set_cons_succ, i64_w, i32_w]
    rfl
  (refine pureS_ (N := some 62) 28 HT_.out rfl rfl (by kernel_rfl) (fun _ _ _ h => h) (v := ?_) (a' := ?_) (Or.inl ⟨by kernel_rfl, ?_⟩) ?_ ?_; rotate_left 2; intro w'; go_simp; with_reducible rfl; simp only [Act.put, List.setIfInBounds_toArray, List.set_cons_zero, List.set_cons_succ, i64_w, i32_w]; rfl)
  (refine pureS_ (N := some 63) 29 HT_.out rfl rfl (by kernel_rfl) (fun _ _ _ h => h) (v := ?_) (a' := ?_) (Or.inl ⟨by kernel_rfl, ?_⟩) ?_ ?_; rotate_left 2; intro w'; go_simp; with_reducible rfl; simp only [Act.put, List.setIfInBounds_toArray, List.set_cons_zero, List.set_cons_succ, i64_w, i32_w]; rfl)
  refine done_ (done_of HT_.out (by kernel_rfl)) ?_
  have p0 : wA.cell? ⟨gb, 0, none⟩ = some (.slice A0 R.length c0) := (blk_cell BXA.out 0).trans rfl
  have p1 : wA.cell? ⟨gb, 1, none⟩ = some (.slice A1 E.length c1) := (blk_cell BXA.out 1).trans rfl
  go_wp2_with (first
        | (go_at_call 29; refine (dr_Earliest.calls A0 c0 R A1 c1 E fs _ _ _ (Kd.C_below HR0.out HBA.out) HC0.out (Kd.C_below HR1.out HBA.out) HC1.out HEA.out).mono ?_; rintro e wB ⟨vB, rfl, hT, hb⟩; obtain ⟨Bb, db, eb, hdb, hCb⟩ := Kd.R_reads hT; subst eb; have HTB := Aside0.mk hCb; clear hT hCb; have HBB := Aside0.mk (below_step HBA.out hb); have BXB := Aside0.mk (blk_below BXA.out hb); clear p0 p1; have p0 : wB.cell? ⟨gb, 0, none⟩ = some (.slice A0 R.length c0) := (blk_cell BXB.out 0).trans rfl; have p1 : wB.cell? ⟨gb, 1, none⟩ = some (.slice A1 E.length c1) := (blk_cell BXB.out 1).trans rfl; clear HBE; have HBE := Aside0.mk HBB.out; clear hb)
        | (go_at_call 31; refine (rearliest_any R E A0 A1 c0 c1 _ (Kd.C_below HR0.out HBB.out) HC0.out (Kd.C_below HR1.out HBB.out) HC1.out h24 fs _ _ HEA.out).mono ?_; rintro e wC ⟨vC, rfl, hT, hb⟩; obtain ⟨Bc, dc, ec, hdc, hCc⟩ := Kd.R_reads hT; subst ec; have HTC := Aside0.mk hCc; have HTBC := Aside0.mk (Kd.C_below HTB.out hb); clear hT hCc; have HBC := Aside0.mk (below_step HBB.out hb); have BXC := Aside0.mk (blk_below BXB.out hb); clear p0 p1; have p0 : wC.cell? ⟨gb, 0, none⟩ = some (.slice A0 R.length c0) := (blk_cell BXC.out 0).trans rfl; have p1 : wC.cell? ⟨gb, 1, none⟩ = some (.slice A1 E.length c1) := (blk_cell BXC.out 1).trans rfl; clear HBE; have HBE := Aside0.mk HBC.out; clear hb)
        | (go_at_call 45; refine (rf_SameInts.calls (fs.length + 1) Bb db fs Bc dc fs true _ HTBC.out hdb HTC.out hdc HSF.out).mono ?_; rintro e wD ⟨rfl, hd⟩; have hb := hd.below; have HBD := Aside0.mk (below_step HBC.out hb); have BXD := Aside0.mk (blk_below BXC.out hb); clear p0 p1; have p0 : wD.cell? ⟨gb, 0, none⟩ = some (.slice A0 R.length c0) := (blk_cell BXD.out 0).trans rfl; have p1 : wD.cell? ⟨gb, 1, none⟩ = some (.slice A1 E.length c1) := (blk_cell BXD.out 1).trans rfl; clear HBE; have HBE := Aside0.mk HBD.out; clear hd hb)
        | (go_at_call 56; refine (dr_Circle.calls A0 c0 R A1 c1 E cs _ _ _ (Kd.C_below HR0.out HBD.out) HC0.out (Kd.C_below HR1.out HBD.out) HC1.out HCI.out).mono ?_; rintro e wF ⟨vF, rfl, hT, hb⟩; obtain ⟨Bf, df, ef, hdf, hCf⟩ := Kd.R_reads hT; subst ef; have HTF := Aside0.mk hCf; clear hT hCf; have HBF := Aside0.mk (below_step HBD.out hb); have BXF := Aside0.mk (blk_below BXD.out hb); clear p0 p1; have p0 : wF.cell? ⟨gb, 0, none⟩ = some (.slice A0 R.length c0) := (blk_cell BXF.out 0).trans rfl; have p1 : wF.cell? ⟨gb, 1, none⟩ = some (.slice A1 E.length c1) := (blk_cell BXF.out 1).trans rfl; clear HBE; have HBE := Aside0.mk HBF.out; clear hb))
  go_ret
  exact ⟨rfl, HBE.out⟩
set_option maxHeartbeats 3200000 in
set_option maxRecDepth 100000 in
theorem runs_yes (R : List S42) (E : List S80) (A0 A1 A2 A3 : Option Addr) (c0 c1 c2 c3 : Nat) (ch li : List Int) (w : World) (hr0 : Kd.C k42 w A0 R.length R) (hc0 : R.length ≤ c0) (hr1 : Kd.C k80 w A1 E.length E) (hc1 : E.length ≤ c1) (hr2 : Kd.C (Kd.int .i64) w A2 ch.length ch) (hc2 : ch.length ≤ c2) (hr3 : Kd.C (Kd.int .i64) w A3 li.length li) (hc3 : li.length ≤ c3) (h24 : E.length ≤ 24) (hS : lw_small.f R E = some true) (ct : Int) (hct : dr_CheckCircle.f R E li = some ct) (ts fs cs : List Int) (hru : dr_Run.f R E ch = some (ts, true, 0)) (hea : dr_Earliest.f R E = some (fs, true, 0)) (hci : dr_Circle.f R E = some (cs, false, 0)) (hsf : rf_SameInts.f (fs.length + 1) fs fs = some true) (hsa : rf_SameInts.f (ts.length + 1) ts ts = some true) :
    Calls Try.prog 12 #[.agg #[.slice A0 R.length c0, .slice A1 E.length c1], .slice A2 ch.length c2, .slice A3 li.length c3] w fun e w' => e = .returned (.bool true) ∧ Below w.heap.size w w' := by
  have HR0 := Aside0.mk hr0
  have HR1 := Aside0.mk hr1
  have HC0 := Aside0.mk hc0
  have HC1 := Aside0.mk hc1
  have HR2 := Aside0.mk hr2
  have HC2 := Aside0.mk hc2
  have HR3 := Aside0.mk hr3
  have HC3 := Aside0.mk hc3
  have HS := Aside0.mk hS
  have HCT := Aside0.mk hct
  have HRU := Aside0.mk hru
  have HEA := Aside0.mk hea
  have HCI := Aside0.mk hci
  have HSF := Aside0.mk hsf
  have HSA := Aside0.mk hsa
  clear hru hea hci hsf hsa
  clear hr0 hc0 hr1 hc1 hS hr2 hc2 hr3 hc3 hct
  go_enter Try.func12, Try.ntmps12
  go_wp2_with (first
        | ((with_reducible refine gate_dst (N := 3) rfl ?_); refine box_event ?hg (N := 3) ?hd (cs := #[.slice A0 R.length c0, .slice A1 E.length c1]) (t := 25) ?hr ?_; (case hd => rfl); (case hg => rfl); (case hr => first | (go_simp; done) | (go_simp; rfl)); intro gb hg w3 hbox hb; have HB3 := Aside0.mk hb; have BX3 := Aside0.mk hbox; clear hb hbox hg)
        | (go_at_call 15; refine (lw_sane.calls true _ rfl).mono ?_; rintro e w4 ⟨rfl, hb⟩; have HB4 := Aside0.mk (below_step HB3.out hb); have BX4 := Aside0.mk (blk_below BX3.out hb); have p0 : w4.cell? ⟨gb, 0, none⟩ = some (.slice A0 R.length c0) := (blk_cell BX4.out 0).trans rfl; have p1 : w4.cell? ⟨gb, 1, none⟩ = some (.slice A1 E.length c1) := (blk_cell BX4.out 1).trans rfl; have HBE := Aside0.mk HB4.out; clear hb)
        | (go_at_call 16; refine (lw_small.calls A0 c0 R A1 c1 E _ _ (Kd.C_below HR0.out HB4.out) HC0.out (Kd.C_below HR1.out HB4.out) HC1.out HS.out).mono ?_; rintro e w5 ⟨rfl, hb⟩; have HB5 := Aside0.mk (below_step HB4.out hb); have BX5 := Aside0.mk (blk_below BX4.out hb); clear p0 p1; have p0 : w5.cell? ⟨gb, 0, none⟩ = some (.slice A0 R.length c0) := (blk_cell BX5.out 0).trans rfl; have p1 : w5.cell? ⟨gb, 1, none⟩ = some (.slice A1 E.length c1) := (blk_cell BX5.out 1).trans rfl; clear HBE; have HBE := Aside0.mk HB5.out; clear hb)
        | (go_at_call 49; refine (dr_Run.calls A0 c0 R A1 c1 E A2 c2 ch ts _ _ _ (Kd.C_below HR0.out HB5.out) HC0.out (Kd.C_below HR1.out HB5.out) HC1.out (Kd.C_below HR2.out HB5.out) HC2.out HRU.out).mono ?_; rintro e w6 ⟨v6, rfl, hT, hb⟩; obtain ⟨B6, d6, e6, hd6, hC6⟩ := Kd.R_reads hT; subst e6; have HT6 := Aside0.mk hC6; clear hT hC6; have HB6 := Aside0.mk (below_step HB5.out hb); have BX6 := Aside0.mk (blk_below BX5.out hb); clear p0 p1; have p0 : w6.cell? ⟨gb, 0, none⟩ = some (.slice A0 R.length c0) := (blk_cell BX6.out 0).trans rfl; have p1 : w6.cell? ⟨gb, 1, none⟩ = some (.slice A1 E.length c1) := (blk_cell BX6.out 1).trans rfl; clear HBE; have HBE := Aside0.mk HB6.out; clear hb)
        | (go_at_call 53; refine (rrun_any R E A0 A1 c0 c1 _ (Kd.C_below HR0.out HB6.out) HC0.out (Kd.C_below HR1.out HB6.out) HC1.out h24 A2 c2 ch (Kd.C_below HR2.out HB6.out) ts _ _ HRU.out).mono ?_; rintro e w7 ⟨v7, rfl, hT, hb⟩; obtain ⟨B7, d7, e7, hd7, hC7⟩ := Kd.R_reads hT; subst e7; have HT7 := Aside0.mk hC7; have HT67 := Aside0.mk (Kd.C_below HT6.out hb); clear hT hC7; have HB7 := Aside0.mk (below_step HB6.out hb); have BX7 := Aside0.mk (blk_below BX6.out hb); clear p0 p1; have p0 : w7.cell? ⟨gb, 0, none⟩ = some (.slice A0 R.length c0) := (blk_cell BX7.out 0).trans rfl; have p1 : w7.cell? ⟨gb, 1, none⟩ = some (.slice A1 E.length c1) := (blk_cell BX7.out 1).trans rfl; clear HBE; have HBE := Aside0.mk HB7.out; clear hb))
  have hS0 : w7.cell? ⟨gb, 0, none⟩ = some (.slice A0 R.length c0) ∧ w7.cell? ⟨gb, 1, none⟩ = some (.slice A1 E.length c1) := ⟨p0, p1⟩
  go_region_held3 (fun w' => w'.cell? ⟨gb, 0, none⟩ = some (.slice A0 R.length c0) ∧ w'.cell? ⟨gb, 1, none⟩ = some (.slice A1 E.length c1)) ((first | exact hS0 | exact hS1 | exact hS2 | exact hS3)) ((first
      | (go_at_call 45; refine (rf_SameInts.calls (ts.length + 1) B6 d6 ts B7 d7 ts true _ (Kd.C_drew HT67.out) hd6 (Kd.C_drew HT7.out) hd7 HSA.out).mono ?_; rintro e wS ⟨rfl, hd⟩; have hb := hd.below; have HBS := Aside0.mk (below_step (below_drew1 HB7.out) hb); have BXS := Aside0.mk (blk_below (blk_drew BX7.out) hb); have hS1 : wS.cell? ⟨gb, 0, none⟩ = some (.slice A0 R.length c0) ∧ wS.cell? ⟨gb, 1, none⟩ = some (.slice A1 E.length c1) := ⟨(blk_cell BXS.out 0).trans rfl, (blk_cell BXS.out 1).trans rfl⟩; clear hd hb)
      | (go_at_call 54; refine (dr_CheckCircle.calls A0 c0 R A1 c1 E A3 c3 li ct _ (Kd.C_below HR0.out HBS.out) HC0.out (Kd.C_below HR1.out HBS.out) HC1.out (Kd.C_below HR3.out HBS.out) HC3.out HCT.out).mono ?_; rintro e w9 ⟨rfl, hb⟩; have HB9 := Aside0.mk (below_step HBS.out hb); have BX9 := Aside0.mk (blk_below BXS.out hb); have hS2 : w9.cell? ⟨gb, 0, none⟩ = some (.slice A0 R.length c0) ∧ w9.cell? ⟨gb, 1, none⟩ = some (.slice A1 E.length c1) := ⟨(blk_cell BX9.out 0).trans rfl, (blk_cell BX9.out 1).trans rfl⟩; clear hb)
      | (go_at_call 55; refine (rcheckcircle_any R E A0 A1 c0 c1 _ (Kd.C_below HR0.out HB9.out) HC0.out (Kd.C_below HR1.out HB9.out) HC1.out h24 A3 c3 li (Kd.C_below HR3.out HB9.out) ct HCT.out).mono ?_; rintro e wA ⟨rfl, hb⟩; have HBA := Aside0.mk (below_step HB9.out hb); have BXA := Aside0.mk (blk_below BX9.out hb); have hS3 : wA.cell? ⟨gb, 0, none⟩ = some (.slice A0 R.length c0) ∧ wA.cell? ⟨gb, 1, none⟩ = some (.slice A1 E.length c1) := ⟨(blk_cell BXA.out 0).trans rfl, (blk_cell BXA.out 1).trans rfl⟩; clear hb)))
  obtain ⟨p0, p1⟩ := hS3
  clear hS0 hS1 hS2
  go_wp2_with (first
        | (go_at_call 29; refine (dr_Earliest.calls A0 c0 R A1 c1 E fs _ _ _ (Kd.C_below HR0.out HBA.out) HC0.out (Kd.C_below HR1.out HBA.out) HC1.out HEA.out).mono ?_; rintro e wB ⟨vB, rfl, hT, hb⟩; obtain ⟨Bb, db, eb, hdb, hCb⟩ := Kd.R_reads hT; subst eb; have HTB := Aside0.mk hCb; clear hT hCb; have HBB := Aside0.mk (below_step HBA.out hb); have BXB := Aside0.mk (blk_below BXA.out hb); clear p0 p1; have p0 : wB.cell? ⟨gb, 0, none⟩ = some (.slice A0 R.length c0) := (blk_cell BXB.out 0).trans rfl; have p1 : wB.cell? ⟨gb, 1, none⟩ = some (.slice A1 E.length c1) := (blk_cell BXB.out 1).trans rfl; clear HBE; have HBE := Aside0.mk HBB.out; clear hb)
        | (go_at_call 31; refine (rearliest_any R E A0 A1 c0 c1 _ (Kd.C_below HR0.out HBB.out) HC0.out (Kd.C_below HR1.out HBB.out) HC1.out h24 fs _ _ HEA.out).mono ?_; rintro e wC ⟨vC, rfl, hT, hb⟩; obtain ⟨Bc, dc, ec, hdc, hCc⟩ := Kd.R_reads hT; subst ec; have HTC := Aside0.mk hCc; have HTBC := Aside0.mk (Kd.C_below HTB.out hb); clear hT hCc; have HBC := Aside0.mk (below_step HBB.out hb); have BXC := Aside0.mk (blk_below BXB.out hb); clear p0 p1; have p0 : wC.cell? ⟨gb, 0, none⟩ = some (.slice A0 R.length c0) := (blk_cell BXC.out 0).trans rfl; have p1 : wC.cell? ⟨gb, 1, none⟩ = some (.slice A1 E.length c1) := (blk_cell BXC.out 1).trans rfl; clear HBE; have HBE := Aside0.mk HBC.out; clear hb)
        | (go_at_call 45; refine (rf_SameInts.calls (fs.length + 1) Bb db fs Bc dc fs true _ HTBC.out hdb HTC.out hdc HSF.out).mono ?_; rintro e wD ⟨rfl, hd⟩; have hb := hd.below; have HBD := Aside0.mk (below_step HBC.out hb); have BXD := Aside0.mk (blk_below BXC.out hb); clear p0 p1; have p0 : wD.cell? ⟨gb, 0, none⟩ = some (.slice A0 R.length c0) := (blk_cell BXD.out 0).trans rfl; have p1 : wD.cell? ⟨gb, 1, none⟩ = some (.slice A1 E.length c1) := (blk_cell BXD.out 1).trans rfl; clear HBE; have HBE := Aside0.mk HBD.out; clear hd hb)
        | (go_at_call 56; refine (dr_Circle.calls A0 c0 R A1 c1 E cs _ _ _ (Kd.C_below HR0.out HBD.out) HC0.out (Kd.C_below HR1.out HBD.out) HC1.out HCI.out).mono ?_; rintro e wF ⟨vF, rfl, hT, hb⟩; obtain ⟨Bf, df, ef, hdf, hCf⟩ := Kd.R_reads hT; subst ef; have HTF := Aside0.mk hCf; clear hT hCf; have HBF := Aside0.mk (below_step HBD.out hb); have BXF := Aside0.mk (blk_below BXD.out hb); clear p0 p1; have p0 : wF.cell? ⟨gb, 0, none⟩ = some (.slice A0 R.length c0) := (blk_cell BXF.out 0).trans rfl; have p1 : wF.cell? ⟨gb, 1, none⟩ = some (.slice A1 E.length c1) := (blk_cell BXF.out 1).trans rfl; clear HBE; have HBE := Aside0.mk HBF.out; clear hb))
  go_ret
  exact ⟨rfl, HBE.out⟩
theorem self_ints (l : List Int) (hl : l.length ≤ 1000000) : rf_SameInts.f (l.length + 1) l l = some true := by
  unfold rf_SameInts.f
  rw [if_pos rfl]
  exact sameInts_self l hl l.length 0 (l.length + 1) (by omega) (by omega)
theorem lw_DriftRuns.calls (k : Nat) (A0 : Option Addr) (c0 : Nat) (R : List S42) (A1 : Option Addr) (c1 : Nat) (E : List S80) (A2 : Option Addr) (c2 : Nat) (ch : List Int) (A3 : Option Addr) (c3 : Nat) (li : List Int) (r : Bool) (w : World) (hr0 : Kd.C k42 w A0 R.length R) (hc0 : R.length ≤ c0) (hr1 : Kd.C k80 w A1 E.length E) (hc1 : E.length ≤ c1) (hr2 : Kd.C (Kd.int .i64) w A2 ch.length ch) (hc2 : ch.length ≤ c2) (hr3 : Kd.C (Kd.int .i64) w A3 li.length li) (hc3 : li.length ≤ c3) (h : r = true) :
    Calls Try.prog 12 #[.agg #[.slice A0 R.length c0, .slice A1 E.length c1], .slice A2 ch.length c2, .slice A3 li.length c3] w fun e w' => e = .returned (.bool r) ∧ Below w.heap.size w w' := by
  subst h
  by_cases h24 : E.length ≤ 24
  · have hS : lw_small.f R E = some true := by unfold lw_small.f; rw [decide_eq_true (by omega)]
    cases hpl : planOK R E
    · refine runs_err R E A0 A1 A2 A3 c0 c1 c2 c3 ch li w hr0 hc0 hr1 hc1 hr2 hc2 hr3 hc3 h24 hS _ rfl [] [] [] ?_ ?_ ?_
      · unfold dr_Run.f; rw [if_neg (by rw [hpl]; decide)]
      · unfold dr_Earliest.f; rw [if_neg (by rw [hpl]; decide)]
      · unfold dr_Circle.f; rw [if_neg (by rw [hpl]; decide)]
    · have hK := (planOK_iff R E).1 hpl
      have hO := bindsL_ok0 hK h24
      obtain ⟨ts, ran, r1, r2⟩ := run_api hK h24 ch
      rcases circle_api hK h24 with ⟨⟨cs, a, k1, k2, k3, k4, k5⟩, k6, k7, _⟩ | ⟨k1, ⟨fs, k2, k3, _⟩, _, _⟩
      · have hran : ran = false := by
          cases ran with
          | false => rfl
          | true => exact absurd ((isRun_iff hK h24 ts).1 (r2 rfl)).2.2.2 (k7 _)
        subst hran
        have hcc : dr_CheckCircle.f R E cs = some 0 := by
          unfold dr_CheckCircle.f
          rw [if_pos hpl, chainF_of hO.bd hO.nn (by omega) cs a a k2 k3 (by omega)]
          exact congrArg some (if_pos ⟨rfl, rfl, k5⟩)
        exact runs_no_c R E A0 A1 A2 A3 c0 c1 c2 c3 ch li w hr0 hc0 hr1 hc1 hr2 hc2 hr3 hc3 h24 hS _ rfl ts [] cs r1 k6 k1 hcc
      · have hfl := ((isRun_iff hK h24 fs).1 k3).1
        cases ran with
        | false => exact runs_no_e R E A0 A1 A2 A3 c0 c1 c2 c3 ch li w hr0 hc0 hr1 hc1 hr2 hc2 hr3 hc3 h24 hS _ rfl ts fs [] r1 k2 k1 (self_ints fs (by omega))
        | true =>
          have htl := ((isRun_iff hK h24 ts).1 (r2 rfl)).1
          exact runs_yes R E A0 A1 A2 A3 c0 c1 c2 c3 ch li w hr0 hc0 hr1 hc1 hr2 hc2 hr3 hc3 h24 hS _ rfl ts fs [] r1 k2 k1 (self_ints fs (by omega)) (self_ints ts (by omega))
  · refine runs_big R E A0 A1 A2 A3 c0 c1 c2 c3 ch li w hr0 hc0 hr1 hc1 ?_
    unfold lw_small.f; rw [decide_eq_false (by omega)]
end Go.Proofs.Ytlfopemghafboaa.D
