/- Contracts of functions that the law reaches, each a walk through its code. No condition beyond each theorem's own hypotheses. -/
import Derived.Test.YtlfopemghafboaaDh6
import Derived.WalkSpells
import Derived.Handy
import Derived.StillTailTactics
import Derived.IntWalk
namespace Go.Proofs.Ytlfopemghafboaa.D
open Go.RowKit Go.Proofs.YtlfopemghafboaaW.PrintWords Go.Proofs.YtlfopemghafboaaW.PrintLast Go.Proofs.YtlfopemghafboaaW.PrintMore
set_option linter.unusedVariables false
set_option linter.unusedSimpArgs false

/-- A row of binds of the call's own. -/
def Out (w W : World) (v : Value) (bs : List S27) : Prop := Kd.R k27 27 W w.heap.size (fun _ => True) v bs ∧ Below w.heap.size w W
theorem Out.below {w W W1 : World} {v : Value} {bs : List S27} (h : Out w W v bs) (hb : Below W.heap.size W W1) : Out w W1 v bs := ⟨Kd.R_below h.1 hb, below_step h.2 hb⟩
theorem Out.nil (w : World) : Out w w (.slice none 0 0) [] := ⟨Kd.R_nil _ _ _ _ _, Below.refl _ _⟩
theorem Out.reads {w W : World} {v : Value} {bs : List S27} (h : Out w W v bs) : ∃ A c, v = .slice A bs.length c ∧ bs.length ≤ c ∧ Kd.C k27 W A bs.length bs := Kd.R_reads h.1
section
variable {ops : Array Oper} {rest : List Oper} {o : Oper} {a : Act} {Q : Exit → Act → World → Prop} {Kc : Act → World → Prop}
theorem out_append {w W : World} (hgd : o.guard = none) (s x : Operand) (ho : o.op = .call { callee := .builtin .append, args := #[s, x], argTypes := #[68, 68] }) (v v' : Value) (bs cs : List S27) (hs : a.eval s = v) (hx : a.eval x = v')
    (hT : Out w W v bs) (hS : ∃ A c, v' = .slice A cs.length c ∧ cs.length ≤ c ∧ Kd.C k27 W A cs.length cs) (hl : bs.length + cs.length < 1000000) (h : ∀ v1 w1, Out w w1 v1 (bs ++ cs) → W.grownBy w1 v.ownBlock → wpList Try.prog ops Q rest (a.put o.dst v1) w1) : wpList Try.prog ops Q (o :: rest) a W := by
  obtain ⟨A, c, e, _, hC⟩ := hS
  subst e
  exact Kd.R_append_rows k27 (w0 := w) w.heap.size hgd s x 68 27 (.agg #[(.int .i64 0), (.int .i64 0), (.int .i64 0)]) 24 ho Try.underlying68 info27 rfl (by decide) (by omega) v bs cs A _ c (fun _ => True) (fun _ => False) hs hx hT.1 hC
    (fun x cs hk => by rw [k27_open hk]; exact k27_mkM _ _ _ x) (fun _ hk => hk.elim) (fun _ _ => trivial) hT.2 hT.2.size (by omega) (fun v1 w1 h1 h2 h3 _ => h v1 w1 ⟨h1, h2⟩ h3)
theorem out_append_step {w W : World} (hw : Region.wanted o (yielded ops a.tmps) = true) (s x : Operand) (ho : o.op = .call { callee := .builtin .append, args := #[s, x], argTypes := #[68, 68] }) (v v' : Value) (bs cs : List S27) (hs : a.eval s = v) (hx : a.eval x = v')
    (hT : Out w W v bs) (hS : ∃ A c, v' = .slice A cs.length c ∧ cs.length ≤ c ∧ Kd.C k27 W A cs.length cs) (hl : bs.length + cs.length < 1000000) (h : ∀ v1 w1, Out w w1 v1 (bs ++ cs) → W.grownBy w1 v.ownBlock → Kc (a.put o.dst v1) w1) :
    if Region.wanted o (yielded ops a.tmps) = true then Oper.wp Try.prog o a W Kc Q else Kc (a.put o.dst undef) W := by
  obtain ⟨A, c, e, _, hC⟩ := hS
  subst e
  exact Kd.R_append_rows_step k27 (w0 := w) w.heap.size hw s x 68 27 (.agg #[(.int .i64 0), (.int .i64 0), (.int .i64 0)]) 24 ho Try.underlying68 info27 rfl (by decide) (by omega) v bs cs A _ c (fun _ => True) (fun _ => False) hs hx hT.1 hC
    (fun x cs hk => by rw [k27_open hk]; exact k27_mkM _ _ _ x) (fun _ hk => hk.elim) (fun _ _ => trivial) hT.2 hT.2.size (by omega) (fun v1 w1 h1 h2 h3 _ => h v1 w1 ⟨h1, h2⟩ h3)
end
theorem up_any' (x f : Int) (hf : f ≠ 0) (w : World) : Calls Try.prog 74 #[.int .i64 x, .int .i64 f] w fun e w' => e = .returned (.int .i64 (upR x f)) ∧ w = w' := (up_any x f hf w).mono fun _ _ h => ⟨h.1, h.2.symm⟩
section
variable {ops : Array Oper} {rest : List Oper} {o : Oper} {a : Act} {Q : Exit → Act → World → Prop}
theorem out_append1 {w W : World} (hgd : o.guard = none) (s x : Operand) (ho : o.op = .call { callee := .builtin .append, args := #[s, x], argTypes := #[68, 68] }) (v : Value) (bs : List S27) (p : S27) (hs : a.eval s = v) (hx : a.eval x = .slice (some ⟨W.heap.size, 0, none⟩) 1 1)
    (hT : Out w W v bs) (hl : bs.length < 1000000) (h : ∀ v1 w1, Out w w1 v1 (bs ++ [p]) → W.grownBy w1 v.ownBlock → wpList Try.prog ops Q rest (a.put o.dst v1) w1) : wpList Try.prog ops Q (o :: rest) a (W.alloc (.cells #[.int .i64 p.f0, .int .i64 p.f1, .int .i64 p.f2] 27)) :=
  Kd.R_append k27 (w0 := w) w.heap.size hgd s x 68 27 (.agg #[(.int .i64 0), (.int .i64 0), (.int .i64 0)]) 24 ho Try.underlying68 info27 rfl (by decide) (by omega) v bs p [.int .i64 p.f0, .int .i64 p.f1, .int .i64 p.f2] (fun _ => True) (fun _ => False) hs hx (k27_mkM _ _ _ p) (fun _ hk => hk.elim) (fun _ _ => trivial) hT.1 hT.2 hT.2.size (by omega)
    (fun v1 w1 h1 h2 h3 _ => h v1 w1 ⟨h1, h2⟩ h3)
end
def causeBs (i : Int) (e : S80) : List S27 := if e.f1 = 1 then firstBs i else if e.f1 = 2 then [] else postBs i e
def cbs (E : List S80) (n : Nat) : List S27 := (List.range n).flatMap fun (i : Nat) => causeBs i (rd_T80 E i)
theorem cbs_succ (E : List S80) (n : Nat) : cbs E (n + 1) = cbs E n ++ causeBs n (rd_T80 E n) := by simp [cbs, List.range_succ]
theorem causeBs_len (i : Int) (e : S80) : (causeBs i e).length ≤ 2 := by
  unfold causeBs firstBs postBs
  split
  · split <;> simp
  · split <;> simp
theorem cbs_len (E : List S80) (n : Nat) : (cbs E n).length ≤ 2 * n := by
  induction n with
  | zero => simp [cbs]
  | succ n ih => rw [cbs_succ, List.length_append]; have := causeBs_len n (rd_T80 E n); omega
theorem firstBs_len (i : Int) : (firstBs i).length ≤ 2 := by unfold firstBs; split <;> simp
theorem litC2 {W : World} {h : Nat} {p q : S27} (hN : W.heap[h]? = some (.cells #[.int .i64 p.f0, .int .i64 p.f1, .int .i64 p.f2, .int .i64 q.f0, .int .i64 q.f1, .int .i64 q.f2] 27 (0, 0))) :
    ∃ A c, Value.slice (some ⟨h, 0, none⟩) 2 2 = .slice A [p, q].length c ∧ [p, q].length ≤ c ∧ Kd.C k27 W A [p, q].length [p, q] := by
  refine ⟨_, _, rfl, Nat.le_refl _, rfl, by simp, fun _ => ⟨_, rfl, fun j r hr => ?_⟩⟩
  have hc : ∀ k, W.cell? ⟨h, k, none⟩ = (#[Value.int .i64 p.f0, .int .i64 p.f1, .int .i64 p.f2, .int .i64 q.f0, .int .i64 q.f1, .int .i64 q.f2] : Array Value)[k]? := fun k => blk_cell hN k
  have hj : j < 2 := by
    have := (List.getElem?_eq_some_iff.1 hr).1
    simpa using this
  rcases (by omega : j = 0 ∨ j = 1) with rfl | rfl
  · have hr' : p = r := by simpa using hr
    subst hr'
    refine ⟨[.int .i64 p.f0, .int .i64 p.f1, .int .i64 p.f2], rfl, k27_mk W p, fun i u hu => ?_⟩
    rw [add_plain]
    rw [hc]
    have hi : i < 3 := by
      have := (List.getElem?_eq_some_iff.1 hu).1
      simpa using this
    rcases (by omega : i = 0 ∨ i = 1 ∨ i = 2) with rfl | rfl | rfl <;> simpa [k27, Kd.iso, Kd.pair, Kd.int, Kd.scalar] using hu
  · have hr' : q = r := by simpa using hr
    subst hr'
    refine ⟨[.int .i64 q.f0, .int .i64 q.f1, .int .i64 q.f2], rfl, k27_mk W q, fun i u hu => ?_⟩
    rw [add_plain]
    rw [hc]
    have hi : i < 3 := by
      have := (List.getElem?_eq_some_iff.1 hu).1
      simpa using this
    rcases (by omega : i = 0 ∨ i = 1 ∨ i = 2) with rfl | rfl | rfl <;> simpa [k27, Kd.iso, Kd.pair, Kd.int, Kd.scalar] using hu
/-- The binds' row, and the two rows of readings, which are only read. -/
structure Trio (w W : World) (v3 v6 v7 : Value) (bs : List S27) (fs ts : List Int) : Prop where
  out : Out w W v3 bs
  fr : Kd.R (Kd.int .i64) 3 W w.heap.size (fun _ => True) v6 fs
  tk : Kd.R (Kd.int .i64) 3 W w.heap.size (fun _ => True) v7 ts
theorem Trio.below {w W W1 : World} {v3 v6 v7 : Value} {bs : List S27} {fs ts : List Int} (h : Trio w W v3 v6 v7 bs fs ts) (hb : Below W.heap.size W W1) : Trio w W1 v3 v6 v7 bs fs ts := ⟨h.out.below hb, Kd.R_below h.fr hb, Kd.R_below h.tk hb⟩
theorem Trio.append {w W W1 : World} {v3 v3' v6 v7 : Value} {bs cs : List S27} {fs ts : List Int} (h : Trio w W v3 v6 v7 bs fs ts) (ho : Out w W1 v3' cs) (hg : W.grownBy W1 v3.ownBlock) : Trio w W1 v3' v6 v7 cs fs ts :=
  ⟨ho, Kd.R_over' h.fr (Kd.R_typed h.out.1) (by decide) hg, Kd.R_over' h.tk (Kd.R_typed h.out.1) (by decide) hg⟩
theorem rform {W : World} {b : Nat} {ok : Nat → Prop} {v : Value} {xs : List Int} (h : Kd.R (Kd.int .i64) 3 W b ok v xs) (hl : 0 < xs.length) : ∃ ad c, v = .slice (some ad) xs.length c := by
  obtain ⟨A, c, e, _, hC⟩ := Kd.R_reads h
  obtain ⟨ad, e1, _⟩ := hC.2.2 hl
  exact ⟨ad, c, by rw [e, e1]⟩
theorem relt {W : World} {b : Nat} {ok : Nat → Prop} {xs : List Int} {ad : Addr} {n c : Nat} (h : Kd.R (Kd.int .i64) 3 W b ok (.slice (some ad) n c) xs) (i : Nat) (h1 : i < xs.length) : W.cell? (ad.add i) = some (.int .i64 (rd xs (i : Int))) := by
  obtain ⟨A, c', e, _, hC⟩ := Kd.R_reads h
  injection e with e1 _ _
  obtain ⟨ad', e2, hc⟩ := Kd.at_int hC (i : Int) (by omega) (by omega)
  rw [e2] at e1
  injection e1 with e1
  rw [e1]
  simpa using hc
def pairAB (R : List S42) (E : List S80) (x : Int) (e a b : Nat) : List S27 :=
  [⟨a, b, wrap64 (Int.tdiv x (rd_T42 R (rd_T80 E e).f0).f0)⟩, ⟨b, a, wrap64 (-(upR x (rd_T42 R (rd_T80 E e).f0).f1))⟩]
def pairOne (R : List S42) (E : List S80) (fs ts : List Int) (e f : Nat) : List S27 :=
  if rd fs e = rd fs f then
    if rd ts f < rd ts e then pairAB R E (wrap64 (rd ts e - rd ts f)) e f e else pairAB R E (wrap64 (rd ts f - rd ts e)) e e f
  else []
def prRow (R : List S42) (E : List S80) (fs ts : List Int) (e k : Nat) : List S27 := (List.range k).flatMap fun (i : Nat) => pairOne R E fs ts e (e + 1 + i)
def prAll (R : List S42) (E : List S80) (fs ts : List Int) (n : Nat) : List S27 := (List.range n).flatMap fun (e : Nat) => prRow R E fs ts e (E.length - (e + 1))
theorem prRow_succ (R : List S42) (E : List S80) (fs ts : List Int) (e k : Nat) : prRow R E fs ts e (k + 1) = prRow R E fs ts e k ++ pairOne R E fs ts e (e + 1 + k) := by simp [prRow, List.range_succ]
theorem prAll_succ (R : List S42) (E : List S80) (fs ts : List Int) (n : Nat) : prAll R E fs ts (n + 1) = prAll R E fs ts n ++ prRow R E fs ts n (E.length - (n + 1)) := by simp [prAll, List.range_succ]
theorem pairOne_len (R : List S42) (E : List S80) (fs ts : List Int) (e f : Nat) : (pairOne R E fs ts e f).length ≤ 2 := by
  unfold pairOne pairAB
  split
  · split <;> simp
  · simp
theorem prRow_len (R : List S42) (E : List S80) (fs ts : List Int) (e k : Nat) : (prRow R E fs ts e k).length ≤ 2 * k := by
  induction k with
  | zero => simp [prRow]
  | succ k ih => rw [prRow_succ, List.length_append]; have := pairOne_len R E fs ts e (e + 1 + k); omega
theorem prAll_len (R : List S42) (E : List S80) (fs ts : List Int) (n : Nat) (hE : E.length ≤ 100) : (prAll R E fs ts n).length ≤ 200 * n := by
  induction n with
  | zero => simp [prAll]
  | succ n ih => rw [prAll_succ, List.length_append]; have := prRow_len R E fs ts n (E.length - (n + 1)); omega
def lastBs (k : Nat) : List S27 := (List.range k).map fun (i : Nat) => ⟨((i + 1 : Nat) : Int), 0, 0⟩
theorem lastBs_succ (k : Nat) : lastBs (k + 1) = lastBs k ++ [⟨((k + 1 : Nat) : Int), 0, 0⟩] := by simp [lastBs, List.range_succ]
theorem lastBs_len (k : Nat) : (lastBs k).length = k := by simp [lastBs]
def bindsL (R : List S42) (E : List S80) : List S27 := cbs E E.length ++ prAll R E (rdL E E.length).1 (rdL E E.length).2 E.length ++ lastBs (E.length - 1)
theorem causeOf_eq (e : S80) (w : World) {v : Value} (h : causeV e = v) : Calls Try.prog 84 #[.agg #[.int .i64 e.f0, .int .i64 e.f1, .int .i64 e.f2, .int .i64 e.f3, .int .i64 e.f4, .int .i64 e.f5]] w fun e' w' => e' = .returned v ∧ Below w.heap.size w w' := h ▸ causeOf_any e w
/-- What a plan's events have, that is asked of binds. -/
structure EvsOK (R : List S42) (E : List S80) : Prop where
  kind : ∀ i : Nat, i < E.length → (rd_T80 E i).f1 = 1 ∨ (rd_T80 E i).f1 = 2 ∨ (rd_T80 E i).f1 = 3
  place : ∀ i : Nat, i < E.length → 0 ≤ (rd_T80 E i).f0 ∧ (rd_T80 E i).f0 < R.length
  timer : ∀ i : Nat, i < E.length → (rd_T80 E i).f1 = 2 → 0 ≤ (rd_T80 E i).f2 ∧ (rd_T80 E i).f2 < i
  rate : ∀ i : Int, 0 ≤ i → i < R.length → (rd_T42 R i).f0 ≠ 0 ∧ (rd_T42 R i).f1 ≠ 0
  len : E.length ≤ 100
  pos : 1 ≤ E.length

set_option maxHeartbeats 3200000 in
set_option maxRecDepth 100000 in
theorem binds_any (g : Nat) (R : List S42) (E : List S80) (w : World) (hP : PlanAt w g R E) (hV : EvsOK R E) :
    Calls Try.prog 62 #[.pointer (some ⟨g, 0, none⟩)] w fun e w' => ∃ v, e = .returned v ∧ Out w w' v (bindsL R E) := by
  have HV := Aside0.mk hV
  have HP := Aside0.mk hP
  have hE := hV.len
  clear hV
  have hp := HV.out.pos
  obtain ⟨A0, c0, A1, c1, g1, g2, g3, g4, g5⟩ := hP
  obtain ⟨hr0, hr1⟩ := HV.out.place 0 hp
  obtain ⟨ad0, eR, _⟩ := at_T42 g2 (rd_T80 E ((0 : Nat) : Int)).f0 hr0 hr1
  obtain ⟨ad1, eE, _⟩ := at_T80 g3 0 (by omega) (by omega)
  cases eR
  cases eE
  clear hr0 hr1
  have p1 : w.cell? ⟨g, 1, none⟩ = some (.slice (some ad1) E.length c1) := (blk_cell g1 1).trans rfl
  have p0w := Aside0.mk (show w.cell? ⟨g, 0, none⟩ = some (.slice (some ad0) R.length c0) from (blk_cell g1 0).trans rfl)
  have G2 := Aside0.mk g2
  have G3 := Aside0.mk g3
  have p1w := Aside0.mk p1
  clear g1 g2 g3 g4
  go_enter Try.func62, Try.ntmps62
  go_wp2_with fail
  go_loopw [3, 20] (fun v3 v wr => ∃ j : Nat, v = .int .i64 j ∧ j ≤ E.length ∧ Aside0 (Out w wr v3 (cbs E j))) (fun _ v _ => E.length - (intOf v).toNat)
  case atStart => exact ⟨0, rfl, by omega, ⟨Out.nil w⟩⟩
  case round =>
    clear p1
    obtain ⟨j, rfl, hj, HO⟩ := hrel
    by_cases hlt : j < E.length
    · have hltb : decide ((j : Int) < (E.length : Int)) = true := by simpa using hlt
      obtain ⟨ad, e1, x0, x1, x2, x3, x4, x5⟩ := at_T80 G3.out (j : Int) (by omega) (by omega)
      cases e1
      replace x0 := (HO.out.2.cell (World.block_lt_of_cell? w _ x0)).trans x0
      replace x1 := (HO.out.2.cell (World.block_lt_of_cell? w _ x1)).trans x1
      replace x2 := (HO.out.2.cell (World.block_lt_of_cell? w _ x2)).trans x2
      replace x3 := (HO.out.2.cell (World.block_lt_of_cell? w _ x3)).trans x3
      replace x4 := (HO.out.2.cell (World.block_lt_of_cell? w _ x4)).trans x4
      replace x5 := (HO.out.2.cell (World.block_lt_of_cell? w _ x5)).trans x5
      simp only [Int.toNat_natCast] at x0 x1 x2 x3 x4 x5
      have HW := Aside0.mk (cbs_succ E j)
      have HL := Aside0.mk (cbs_len E j)
      have HK := HV.out.kind j hlt
      generalize rd_T80 E (j : Int) = ev at x0 x1 x2 x3 x4 x5 HW HK
      generalize cbs E j = bs at HO HW HL
      obtain ⟨f0, f1, f2, f3, f4, f5⟩ := ev
      simp only at x0 x1 x2 x3 x4 x5 HK
      by_cases k1 : f1 = 1
      · have hc : causeV ⟨f0, f1, f2, f3, f4, f5⟩ = .iface 130 (.agg #[.int .i64 f0, .int .i64 f1, .int .i64 f2, .int .i64 f3, .int .i64 f4, .int .i64 f5]) := by unfold causeV; rw [if_pos k1]; rfl
        have hbs : causeBs (j : Int) ⟨f0, f1, f2, f3, f4, f5⟩ = firstBs (j : Int) := by unfold causeBs; rw [if_pos k1]
        have HC := Aside0.mk hc
        have HBS := Aside0.mk hbs
        clear hc hbs k1 HK
        go_wp2_with (first | (go_at_call 84; refine (causeOf_eq ⟨f0, f1, f2, f3, f4, f5⟩ _ HC.out).mono ?_; rintro e w3 ⟨rfl, hb3⟩; have HO3 := Aside0.mk ((HO.out.below (below_alloc (Below.refl _ _) _)).below hb3); clear hb3 x0 x1 x2 x3 x4 x5) | (go_at_call 112; refine (first_binds ⟨f0, f1, f2, f3, f4, f5⟩ _ _).mono ?_; rintro e w4 ⟨v4, rfl, hr4, hb4⟩; have HO4 := Aside0.mk (HO3.out.below hb4); have HR4 := Aside0.mk hr4; clear hb4 hr4) | (at_builtin; refine out_append rfl _ _ rfl _ v4 bs (firstBs (j : Int)) rfl rfl HO4.out (Kd.R_reads HR4.out) (by have h1 := HL.out; have h2 := firstBs_len (j : Int); omega) ?_; intro v5 w5 hT5 hg5; have HO5 := Aside0.mk hT5; clear hT5 hg5))
        go_roundw
        case rel => exact ⟨j + 1, by go_num, by omega, by rw [HW.out, HBS.out]; exact HO5⟩
        case measure => simp [intOf]; omega
      · by_cases k2 : f1 = 2
        · have hc : causeV ⟨f0, f1, f2, f3, f4, f5⟩ = .iface 131 (.agg #[.int .i64 f0, .int .i64 f1, .int .i64 f2, .int .i64 f3, .int .i64 f4, .int .i64 f5]) := by unfold causeV; rw [if_neg k1, if_pos k2]; rfl
          have hbs : causeBs (j : Int) ⟨f0, f1, f2, f3, f4, f5⟩ = ([] : List S27) := by unfold causeBs; rw [if_neg k1, if_pos k2]
          have HC := Aside0.mk hc
          have HBS := Aside0.mk hbs
          clear hc hbs k1 k2 HK
          go_wp2_with (first | (go_at_call 84; refine (causeOf_eq ⟨f0, f1, f2, f3, f4, f5⟩ _ HC.out).mono ?_; rintro e w3 ⟨rfl, hb3⟩; have HO3 := Aside0.mk ((HO.out.below (below_alloc (Below.refl _ _) _)).below hb3); clear hb3 x0 x1 x2 x3 x4 x5) | (go_at_call 114; refine (timer_binds ⟨f0, f1, f2, f3, f4, f5⟩ _ _).mono ?_; rintro e w4 ⟨v4, rfl, hr4, hb4⟩; have HO4 := Aside0.mk (HO3.out.below hb4); have HR4 := Aside0.mk hr4; clear hb4 hr4) | (at_builtin; refine out_append rfl _ _ rfl _ v4 bs (([] : List S27)) rfl rfl HO4.out (Kd.R_reads HR4.out) (by have h1 := HL.out; simp only [List.length_nil]; omega) ?_; intro v5 w5 hT5 hg5; have HO5 := Aside0.mk hT5; clear hT5 hg5))
          go_roundw
          case rel => exact ⟨j + 1, by go_num, by omega, by rw [HW.out, HBS.out]; exact HO5⟩
          case measure => simp [intOf]; omega
        · have k3 : f1 = 3 := by omega
          clear HK
          have hc : causeV ⟨f0, f1, f2, f3, f4, f5⟩ = .iface 132 (.agg #[.int .i64 f0, .int .i64 f1, .int .i64 f2, .int .i64 f3, .int .i64 f4, .int .i64 f5]) := by unfold causeV; rw [if_neg k1, if_neg k2, if_pos k3]; rfl
          have hbs : causeBs (j : Int) ⟨f0, f1, f2, f3, f4, f5⟩ = (postBs (j : Int) ⟨f0, f1, f2, f3, f4, f5⟩) := by unfold causeBs; rw [if_neg k1, if_neg k2]
          have HC := Aside0.mk hc
          have HBS := Aside0.mk hbs
          clear hc hbs k1 k2 k3
          go_wp2_with (first | (go_at_call 84; refine (causeOf_eq ⟨f0, f1, f2, f3, f4, f5⟩ _ HC.out).mono ?_; rintro e w3 ⟨rfl, hb3⟩; have HO3 := Aside0.mk ((HO.out.below (below_alloc (Below.refl _ _) _)).below hb3); clear hb3 x0 x1 x2 x3 x4 x5) | (go_at_call 116; refine (post_binds ⟨f0, f1, f2, f3, f4, f5⟩ _ _).mono ?_; rintro e w4 ⟨v4, rfl, hr4, hb4⟩; have HO4 := Aside0.mk (HO3.out.below hb4); have HR4 := Aside0.mk hr4; clear hb4 hr4) | (at_builtin; refine out_append rfl _ _ rfl _ v4 bs ((postBs (j : Int) ⟨f0, f1, f2, f3, f4, f5⟩)) rfl rfl HO4.out (Kd.R_reads HR4.out) (by have h1 := HL.out; simp only [postBs, List.length_cons, List.length_nil]; omega) ?_; intro v5 w5 hT5 hg5; have HO5 := Aside0.mk hT5; clear hT5 hg5))
          go_roundw
          case rel => exact ⟨j + 1, by go_num, by omega, by rw [HW.out, HBS.out]; exact HO5⟩
          case measure => simp [intOf]; omega
    · have hltb : decide ((j : Int) < (E.length : Int)) = false := by simpa using hlt
      have hj' : j = E.length := by omega
      have HJ := Aside0.mk hj'
      clear hj'
      go_wp2_with fail
      refine (readings_any g R E wr (HP.out.below HO.out.2) hE HV.out.timer).mono ?_
      rintro e w6 ⟨v6, v7, rfl, hTw⟩
      have HT0 : Aside0 (Trio w w6 u3 v6 v7 (cbs E j) (rdL E E.length).1 (rdL E E.length).2) := ⟨⟨HO.out.below hTw.2.2, Kd.R_mono (Kd.R_lower hTw.1 HO.out.2.size) (fun _ _ => trivial), Kd.R_mono (Kd.R_lower hTw.2.1 HO.out.2.size) (fun _ _ => trivial)⟩⟩
      rw [HJ.out] at HT0
      have HL0 := Aside0.mk (cbs_len E E.length)
      have HLf := Aside0.mk (rdL_len E E.length).1
      have HLt := Aside0.mk (rdL_len E E.length).2
      have HG : Aside0 (bindsL R E = cbs E E.length ++ prAll R E (rdL E E.length).1 (rdL E E.length).2 E.length ++ lastBs (E.length - 1)) := ⟨rfl⟩
      generalize (rdL E E.length).1 = fs at HT0 HLf HG
      generalize (rdL E E.length).2 = ts at HT0 HLt HG
      generalize cbs E E.length = bs0 at HT0 HL0 HG
      clear HO HJ hTw hltb hlt
      obtain ⟨ad6, c6, e6⟩ := rform HT0.out.fr (by have := HLf.out; omega)
      obtain ⟨ad7, c7, e7⟩ := rform HT0.out.tk (by have := HLt.out; omega)
      subst e6
      subst e7
      have hqf : fs.length ≤ 100 := by have := HLf.out; omega
      have hqt : ts.length ≤ 100 := by have := HLt.out; omega
      have PW : ∀ W, Below w.heap.size w W → W.cell? ⟨g, 1, none⟩ = some (.slice (some ad1) E.length c1) := fun W hW => (hW.cell (World.block_lt_of_cell? w _ p1w.out)).trans p1w.out
      have p1 := PW _ HT0.out.out.2
      have PWA := Aside0.mk PW
      clear PW
      go_wp2_with fail
      clear p1
      go_loopw [3, 42] (fun v3 v wr => ∃ e : Nat, v = .int .i64 e ∧ e ≤ E.length ∧ Aside0 (Trio w wr v3 (.slice (some ad6) fs.length c6) (.slice (some ad7) ts.length c7) (bs0 ++ prAll R E fs ts e) fs ts)) (fun _ v _ => E.length - (intOf v).toNat)
      case atStart => exact ⟨0, rfl, by omega, ⟨by simpa [prAll] using HT0.out⟩⟩
      case round =>
        obtain ⟨e, rfl, he, HT⟩ := hrel
        by_cases helt : e < E.length
        · have heltb : decide ((e : Int) < (E.length : Int)) = true := by simpa using helt
          have pw1 := PWA.out _ HT.out.out.2
          go_wp2_with fail
          clear pw1
          obtain ⟨wo, hwo⟩ : ∃ wo : World, wo = wr := ⟨_, rfl⟩
          subst hwo
          go_loopw [3, 9] (fun v3 v wr => ∃ f : Nat, v = .int .i64 f ∧ e + 1 ≤ f ∧ f ≤ E.length ∧ Aside0 (Trio w wr v3 (.slice (some ad6) fs.length c6) (.slice (some ad7) ts.length c7) (bs0 ++ prAll R E fs ts e ++ prRow R E fs ts e (f - (e + 1))) fs ts)) (fun _ v _ => E.length - (intOf v).toNat)
          case atStart => exact ⟨e + 1, by go_num, by omega, by omega, ⟨by simpa [prRow] using HT.out⟩⟩
          case round =>
            clear HT
            obtain ⟨f, rfl, hf0, hf1, HT⟩ := hrel
            have pw1 := PWA.out _ HT.out.out.2
            by_cases hflt : f < E.length
            · have hfltb : decide ((f : Int) < (E.length : Int)) = true := by simpa using hflt
              have x6e := relt HT.out.fr e (by have := HLf.out; omega)
              have x6f := relt HT.out.fr f (by have := HLf.out; omega)
              have qe : (e : Int) < (fs.length : Int) := by have := HLf.out; omega
              have qf : (f : Int) < (fs.length : Int) := by have := HLf.out; omega
              have hsub : f + 1 - (e + 1) = (f - (e + 1)) + 1 := by omega
              have HW := Aside0.mk (show prRow R E fs ts e (f + 1 - (e + 1)) = prRow R E fs ts e (f - (e + 1)) ++ pairOne R E fs ts e f from by rw [hsub, prRow_succ, show e + 1 + (f - (e + 1)) = f from by omega])
              clear hsub
              by_cases hfr : rd fs (e : Int) = rd fs (f : Int)
              · have hfrb : ((rd fs (e : Int)) != (rd fs (f : Int))) = false := by simpa using hfr
                have HF := Aside0.mk hfr
                clear hfr
                go_wp2_with fail
                go_quiet (fail)
                have T1 := HT.out.below (pw_below_drewN (Below.refl _ wr) nq)
                go_wp2_with fail
                generalize wr.drewN nq = V1 at T1 ⊢
                clear x6e x6f qe qf HT pw1
                have x7e := relt T1.tk e (by have := HLt.out; omega)
                have x7f := relt T1.tk f (by have := HLt.out; omega)
                have q0 : (e : Int) < (ts.length : Int) := by have := HLt.out; omega
                have q1 : (f : Int) < (ts.length : Int) := by have := HLt.out; omega
                by_cases hsw : rd ts (f : Int) < rd ts (e : Int)
                · have hswb : decide (rd ts (f : Int) < rd ts (e : Int)) = true := by simpa using hsw
                  have hpo : pairOne R E fs ts e f = pairAB R E (wrap64 (rd ts (e : Int) - rd ts (f : Int))) e f e := by unfold pairOne; rw [if_pos HF.out, if_pos hsw]
                  have HPO := Aside0.mk hpo
                  clear hsw hpo
                  go_quiet (fail)
                  have T := T1.below (pw_below_drewN (Below.refl _ V1) nq)
                  go_wp2_with fail
                  generalize V1.drewN nq = V0 at T ⊢
                  have T := T.below (below_drew1 (Below.refl _ V0))
                  have s0 := relt T.tk e (by have := HLt.out; omega)
                  have s1 := relt T.tk f (by have := HLt.out; omega)
                  have s2 := (T.out.2.cell (World.block_lt_of_cell? w _ p0w.out)).trans p0w.out
                  have s3 := (T.out.2.cell (World.block_lt_of_cell? w _ p1w.out)).trans p1w.out
                  obtain ⟨_, eq1, s4, _⟩ := at_T80 G3.out (e : Int) (by omega) (by omega)
                  cases eq1
                  replace s4 := (T.out.2.cell (World.block_lt_of_cell? w _ s4)).trans s4
                  simp only [Int.toNat_natCast] at s4
                  obtain ⟨pl0, pl1⟩ := HV.out.place e helt
                  obtain ⟨hr0, hr1⟩ := HV.out.rate _ pl0 pl1
                  obtain ⟨_, eq2, s5, s6⟩ := at_T42 G2.out _ pl0 pl1
                  cases eq2
                  replace s5 := (T.out.2.cell (World.block_lt_of_cell? w _ s5)).trans s5
                  replace s6 := (T.out.2.cell (World.block_lt_of_cell? w _ s6)).trans s6
                  have HPL : Aside0 (∃ p r q, p = (rd_T80 E (e : Int)).f0 ∧ r = (rd_T42 R p).f0 ∧ q = (rd_T42 R p).f1) := ⟨_, _, _, rfl, rfl, rfl⟩
                  obtain ⟨pl, r0, r1, hpl, hr0', hr1'⟩ := HPL.out
                  clear HPL
                  rw [← hpl] at s4 s5 s6 pl0 pl1 hr0 hr1
                  rw [← hr0'] at s5 hr0
                  rw [← hr1'] at s6 hr1
                  have hpair : pairAB R E (wrap64 (rd ts (e : Int) - rd ts (f : Int))) e f e = [⟨(f : Int), (e : Int), wrap64 (Int.tdiv (wrap64 (rd ts (e : Int) - rd ts (f : Int))) r0)⟩, ⟨(e : Int), (f : Int), wrap64 (-(upR (wrap64 (rd ts (e : Int) - rd ts (f : Int))) r1))⟩] := by unfold pairAB; rw [← hpl, ← hr0', ← hr1']
                  have HPAIR := Aside0.mk hpair
                  have HRQ := Aside0.mk hr1
                  have HRZ := Aside0.mk hr0
                  clear hpair hr0 hr1 hpl hr0' hr1'
                  have q0 : (e : Int) < (ts.length : Int) := by have := HLt.out; omega
                  have q1 : (f : Int) < (ts.length : Int) := by have := HLt.out; omega
                  refine start_ (n := 26) (S := fun w' => w'.cell? (ad7.add e) = some (.int .i64 (rd ts (e : Int))) ∧ w'.cell? (ad7.add f) = some (.int .i64 (rd ts (f : Int))) ∧ w'.cell? ⟨g, 0, none⟩ = some (.slice (some ad0) R.length c0) ∧ w'.cell? ⟨g, 1, none⟩ = some (.slice (some ad1) E.length c1) ∧ w'.cell? (ad1.add (e * 6)) = some (.int .i64 pl) ∧ w'.cell? (ad0.add (pl.toNat * 2)) = some (.int .i64 r0) ∧ w'.cell? ⟨(ad0.add (pl.toNat * 2)).block, (ad0.add (pl.toNat * 2)).off + 1, none⟩ = some (.int .i64 r1)) (ds := [25]) #[false, false, false, false, false, false, false, false, false, false, false, false, false, false, false, false, false, false, false, false, false, false, false, false, false, false] (by kernel_rfl) rfl rfl ⟨s0, s1, s2, s3, s4, s5, s6⟩ (fun hHeld => ?_)
                  generalize V0.drew = V at *
                  refine pure_ (i := 0) (N := some 78) (v := ?_) (a' := ?_) #[true, false, false, false, false, false, false, false, false, false, false, false, false, false, false, false, false, false, false, false, false, false, false, false, false, false] rfl rfl (by kernel_rfl) (fun _ _ _ h => h) (Or.inl ⟨by rfl, ?_⟩) ?_ ?_
                  rotate_left
                  · intro w'
                    go_simp
                    with_reducible rfl
                  rotate_left
                  · simp only [Act.put, List.setIfInBounds_toArray, List.set_cons_zero, List.set_cons_succ, i64_w, i32_w]
                    rfl
                  refine pure_ (i := 1) (N := some 79) (v := ?_) (a' := ?_) #[true, true, false, false, false, false, false, false, false, false, false, false, false, false, false, false, false, false, false, false, false, false, false, false, false, false] rfl rfl (by kernel_rfl) (fun _ _ _ h => h) (Or.inl ⟨by rfl, ?_⟩) ?_ ?_
                  rotate_left
                  · intro w'
                    go_simp
                    with_reducible rfl
                  rotate_left
                  · simp only [Act.put, List.setIfInBounds_toArray, List.set_cons_zero, List.set_cons_succ, i64_w, i32_w]
                    rfl
                  refine pure_ (i := 2) (N := some 80) (v := ?_) (a' := ?_) #[true, true, true, false, false, false, false, false, false, false, false, false, false, false, false, false, false, false, false, false, false, false, false, false, false, false] rfl rfl (by kernel_rfl) (fun _ _ _ h => h) (Or.inl ⟨by rfl, ?_⟩) ?_ ?_
                  rotate_left
                  · intro w'
                    go_simp
                    with_reducible rfl
                  rotate_left
                  · simp only [Act.put, List.setIfInBounds_toArray, List.set_cons_zero, List.set_cons_succ, i64_w, i32_w]
                    rfl
                  refine pure_ (i := 4) (N := some 82) (v := ?_) (a' := ?_) #[true, true, true, false, true, false, false, false, false, false, false, false, false, false, false, false, false, false, false, false, false, false, false, false, false, false] rfl rfl (by kernel_rfl) (fun _ _ _ h => h) (Or.inl ⟨by rfl, ?_⟩) ?_ ?_
                  rotate_left
                  · intro w'
                    go_simp
                    with_reducible rfl
                  rotate_left
                  · simp only [Act.put, List.setIfInBounds_toArray, List.set_cons_zero, List.set_cons_succ, i64_w, i32_w]
                    rfl
                  refine pure_ (i := 5) (N := some 83) (v := ?_) (a' := ?_) #[true, true, true, false, true, true, false, false, false, false, false, false, false, false, false, false, false, false, false, false, false, false, false, false, false, false] rfl rfl (by kernel_rfl) (fun _ _ _ h => h) (Or.inl ⟨by rfl, ?_⟩) ?_ ?_
                  rotate_left
                  · intro w'
                    go_simp
                    with_reducible rfl
                  rotate_left
                  · simp only [Act.put, List.setIfInBounds_toArray, List.set_cons_zero, List.set_cons_succ, i64_w, i32_w]
                    rfl
                  refine pure_ (i := 6) (N := some 84) (v := ?_) (a' := ?_) #[true, true, true, false, true, true, true, false, false, false, false, false, false, false, false, false, false, false, false, false, false, false, false, false, false, false] rfl rfl (by kernel_rfl) (fun _ _ _ h => h) (Or.inl ⟨by rfl, ?_⟩) ?_ ?_
                  rotate_left
                  · intro w'
                    go_simp
                    with_reducible rfl
                  rotate_left
                  · simp only [Act.put, List.setIfInBounds_toArray, List.set_cons_zero, List.set_cons_succ, i64_w, i32_w]
                    rfl
                  refine pure_ (i := 9) (N := some 87) (v := ?_) (a' := ?_) #[true, true, true, false, true, true, true, false, false, true, false, false, false, false, false, false, false, false, false, false, false, false, false, false, false, false] rfl rfl (by kernel_rfl) (fun _ _ _ h => h) (Or.inl ⟨by rfl, ?_⟩) ?_ ?_
                  rotate_left
                  · intro w'
                    go_simp
                    with_reducible rfl
                  rotate_left
                  · simp only [Act.put, List.setIfInBounds_toArray, List.set_cons_zero, List.set_cons_succ, i64_w, i32_w]
                    rfl
                  refine pure_ (i := 10) (N := some 88) (v := ?_) (a' := ?_) #[true, true, true, false, true, true, true, false, false, true, true, false, false, false, false, false, false, false, false, false, false, false, false, false, false, false] rfl rfl (by kernel_rfl) (fun _ _ _ h => h) (Or.inl ⟨by rfl, ?_⟩) ?_ ?_
                  rotate_left
                  · intro w'
                    go_simp
                    with_reducible rfl
                  rotate_left
                  · simp only [Act.put, List.setIfInBounds_toArray, List.set_cons_zero, List.set_cons_succ, i64_w, i32_w]
                    rfl
                  refine pure_ (i := 11) (N := some 89) (v := ?_) (a' := ?_) #[true, true, true, false, true, true, true, false, false, true, true, true, false, false, false, false, false, false, false, false, false, false, false, false, false, false] rfl rfl (by kernel_rfl) (fun _ _ _ h => h) (Or.inl ⟨by rfl, ?_⟩) ?_ ?_
                  rotate_left
                  · intro w'
                    go_simp
                    with_reducible rfl
                  rotate_left
                  · simp only [Act.put, List.setIfInBounds_toArray, List.set_cons_zero, List.set_cons_succ, i64_w, i32_w]
                    rfl
                  refine pure_ (i := 13) (N := some 91) (v := ?_) (a' := ?_) #[true, true, true, false, true, true, true, false, false, true, true, true, false, true, false, false, false, false, false, false, false, false, false, false, false, false] rfl rfl (by kernel_rfl) (fun _ _ _ h => h) (Or.inl ⟨by rfl, ?_⟩) ?_ ?_
                  rotate_left
                  · intro w'
                    go_simp
                    with_reducible rfl
                  rotate_left
                  · simp only [Act.put, List.setIfInBounds_toArray, List.set_cons_zero, List.set_cons_succ, i64_w, i32_w]
                    rfl
                  refine pure_ (i := 14) (N := some 92) (v := ?_) (a' := ?_) #[true, true, true, false, true, true, true, false, false, true, true, true, false, true, true, false, false, false, false, false, false, false, false, false, false, false] rfl rfl (by kernel_rfl) (fun _ _ _ h => h) (Or.inl ⟨by rfl, ?_⟩) ?_ ?_
                  rotate_left
                  · intro w'
                    go_simp
                    with_reducible rfl
                  rotate_left
                  · simp only [Act.put, List.setIfInBounds_toArray, List.set_cons_zero, List.set_cons_succ, i64_w, i32_w]
                    rfl
                  refine pure_ (i := 15) (N := some 93) (v := ?_) (a' := ?_) #[true, true, true, false, true, true, true, false, false, true, true, true, false, true, true, true, false, false, false, false, false, false, false, false, false, false] rfl rfl (by kernel_rfl) (fun _ _ _ h => h) (Or.inl ⟨by rfl, ?_⟩) ?_ ?_
                  rotate_left
                  · intro w'
                    go_simp
                    with_reducible rfl
                  rotate_left
                  · simp only [Act.put, List.setIfInBounds_toArray, List.set_cons_zero, List.set_cons_succ, i64_w, i32_w]
                    rfl
                  refine pure_ (i := 17) (N := some 95) (v := ?_) (a' := ?_) #[true, true, true, false, true, true, true, false, false, true, true, true, false, true, true, true, false, true, false, false, false, false, false, false, false, false] rfl rfl (by kernel_rfl) (fun _ _ _ h => h) (Or.inl ⟨by rfl, ?_⟩) ?_ ?_
                  rotate_left
                  · intro w'
                    go_simp
                    with_reducible rfl
                  rotate_left
                  · simp only [Act.put, List.setIfInBounds_toArray, List.set_cons_zero, List.set_cons_succ, i64_w, i32_w]
                    rfl
                  refine take_ (i := 3) (N := some 81) (v := ?_) (a' := ?_) #[true, true, true, true, true, true, true, false, false, true, true, true, false, true, true, true, false, true, false, false, false, false, false, false, false, false] rfl rfl (by kernel_rfl) (fun _ _ _ h => h) (Or.inl ⟨by rfl, ?_⟩) hHeld ?_ ?_
                  rotate_left
                  · rintro w' ⟨s0, s1, s2, s3, s4, s5, s6⟩
                    go_simp
                    with_reducible rfl
                  rotate_left
                  · simp only [Act.put, List.setIfInBounds_toArray, List.set_cons_zero, List.set_cons_succ, i64_w, i32_w]
                    rfl
                  refine take_ (i := 7) (N := some 85) (v := ?_) (a' := ?_) #[true, true, true, true, true, true, true, true, false, true, true, true, false, true, true, true, false, true, false, false, false, false, false, false, false, false] rfl rfl (by kernel_rfl) (fun _ _ _ h => h) (Or.inl ⟨by rfl, ?_⟩) hHeld ?_ ?_
                  rotate_left
                  · rintro w' ⟨s0, s1, s2, s3, s4, s5, s6⟩
                    go_simp
                    with_reducible rfl
                  rotate_left
                  · simp only [Act.put, List.setIfInBounds_toArray, List.set_cons_zero, List.set_cons_succ, i64_w, i32_w]
                    rfl
                  refine pure_ (i := 8) (N := some 86) (v := ?_) (a' := ?_) #[true, true, true, true, true, true, true, true, true, true, true, true, false, true, true, true, false, true, false, false, false, false, false, false, false, false] rfl rfl (by kernel_rfl) (fun _ _ _ h => h) (Or.inl ⟨by rfl, ?_⟩) ?_ ?_
                  rotate_left
                  · intro w'
                    go_simp
                    with_reducible rfl
                  rotate_left
                  · simp only [Act.put, List.setIfInBounds_toArray, List.set_cons_zero, List.set_cons_succ, i64_w, i32_w]
                    rfl
                  refine take_ (i := 12) (N := some 90) (v := ?_) (a' := ?_) #[true, true, true, true, true, true, true, true, true, true, true, true, true, true, true, true, false, true, false, false, false, false, false, false, false, false] rfl rfl (by kernel_rfl) (fun _ _ _ h => h) (Or.inl ⟨by rfl, ?_⟩) hHeld ?_ ?_
                  rotate_left
                  · rintro w' ⟨s0, s1, s2, s3, s4, s5, s6⟩
                    go_simp
                    with_reducible rfl
                  rotate_left
                  · simp only [Act.put, List.setIfInBounds_toArray, List.set_cons_zero, List.set_cons_succ, i64_w, i32_w]
                    rfl
                  refine take_ (i := 16) (N := some 94) (v := ?_) (a' := ?_) #[true, true, true, true, true, true, true, true, true, true, true, true, true, true, true, true, true, true, false, false, false, false, false, false, false, false] rfl rfl (by kernel_rfl) (fun _ _ _ h => h) (Or.inl ⟨by rfl, ?_⟩) hHeld ?_ ?_
                  rotate_left
                  · rintro w' ⟨s0, s1, s2, s3, s4, s5, s6⟩
                    go_simp
                    with_reducible rfl
                  rotate_left
                  · simp only [Act.put, List.setIfInBounds_toArray, List.set_cons_zero, List.set_cons_succ, i64_w, i32_w]
                    rfl
                  refine pure_ (i := 18) (N := some 96) (v := ?_) (a' := ?_) #[true, true, true, true, true, true, true, true, true, true, true, true, true, true, true, true, true, true, true, false, false, false, false, false, false, false] rfl rfl (by kernel_rfl) (fun _ _ _ h => h) (Or.inl ⟨by rfl, ?_⟩) ?_ ?_
                  rotate_left
                  · intro w'
                    go_simp
                    with_reducible rfl
                  rotate_left
                  · simp only [Act.put, List.setIfInBounds_toArray, List.set_cons_zero, List.set_cons_succ, i64_w, i32_w]
                    rfl
                  refine pure_ (i := 19) (N := some 97) (v := ?_) (a' := ?_) #[true, true, true, true, true, true, true, true, true, true, true, true, true, true, true, true, true, true, true, true, false, false, false, false, false, false] rfl rfl (by kernel_rfl) (fun _ _ _ h => h) (Or.inl ⟨by rfl, ?_⟩) ?_ ?_
                  rotate_left
                  · intro w'
                    go_simp
                    with_reducible rfl
                  rotate_left
                  · simp only [Act.put, List.setIfInBounds_toArray, List.set_cons_zero, List.set_cons_succ, i64_w, i32_w]
                    rfl
                  refine take_ (i := 20) (N := some 98) (v := ?_) (a' := ?_) #[true, true, true, true, true, true, true, true, true, true, true, true, true, true, true, true, true, true, true, true, true, false, false, false, false, false] rfl rfl (by kernel_rfl) (fun _ _ _ h => h) (Or.inl ⟨by rfl, ?_⟩) hHeld ?_ ?_
                  rotate_left
                  · rintro w' ⟨s0, s1, s2, s3, s4, s5, s6⟩
                    go_simp
                    with_reducible rfl
                  rotate_left
                  · simp only [Act.put, List.setIfInBounds_toArray, List.set_cons_zero, List.set_cons_succ, i64_w, i32_w]
                    rfl
                  refine pure_ (i := 21) (N := some 99) (v := ?_) (a' := ?_) #[true, true, true, true, true, true, true, true, true, true, true, true, true, true, true, true, true, true, true, true, true, true, false, false, false, false] rfl rfl (by kernel_rfl) (fun _ _ _ h => h) (Or.inl ⟨by rfl, ?_⟩) ?_ ?_
                  rotate_left
                  · intro w'
                    go_simp
                    with_reducible rfl
                  rotate_left
                  · simp only [Act.put, List.setIfInBounds_toArray, List.set_cons_zero, List.set_cons_succ, i64_w, i32_w]
                    rfl
                  refine take_ (i := 22) (N := some 100) (v := ?_) (a' := ?_) #[true, true, true, true, true, true, true, true, true, true, true, true, true, true, true, true, true, true, true, true, true, true, true, false, false, false] rfl rfl (by kernel_rfl) (fun _ _ _ h => h) (Or.inl ⟨by rfl, ?_⟩) hHeld ?_ ?_
                  rotate_left
                  · rintro w' ⟨s0, s1, s2, s3, s4, s5, s6⟩
                    go_simp
                    with_reducible rfl
                  rotate_left
                  · simp only [Act.put, List.setIfInBounds_toArray, List.set_cons_zero, List.set_cons_succ, i64_w, i32_w]
                    rfl
                  refine one_ (i := 23) (N := some 13) #[true, true, true, true, true, true, true, true, true, true, true, true, true, true, true, true, true, true, true, true, true, true, true, true, false, false] rfl rfl (by kernel_rfl) (by decide) (fun K hK => ?_)
                  refine value_ (w1 := ?_) (v := ?_) (by rfl) rfl ?_ ?_
                  rotate_left 2
                  · go_simp
                    constructor
                    · rfl
                    · rfl
                  have HBa := below_alloc (Below.refl _ V) (.cells #[.int .i64 0, .int .i64 0] 42)
                  have BXa := blk_new V (.cells #[.int .i64 0, .int .i64 0] 42)
                  have fz0 := blk_frozen BXa 0
                  have fz1 := blk_frozen BXa 1
                  have cz0 : (V.alloc (.cells #[.int .i64 0, .int .i64 0] 42)).cell? ⟨V.heap.size, 0, none⟩ = some (.int .i64 0) := (blk_cell BXa 0).trans rfl
                  have cz1 : (V.alloc (.cells #[.int .i64 0, .int .i64 0] 42)).cell? ⟨V.heap.size, 1, none⟩ = some (.int .i64 0) := (blk_cell BXa 1).trans rfl
                  refine hK.out _ _ ⟨pw_cell_below HBa s0, pw_cell_below HBa s1, pw_cell_below HBa s2, pw_cell_below HBa s3, pw_cell_below HBa s4, pw_cell_below HBa s5, pw_cell_below HBa s6⟩ (fun hHeld => ?_)
                  clear hK K
                  refine norm_ (a' := ?_) ?_ ?_
                  rotate_left
                  · show Act.put _ (some 13) _ = _
                    simp only [Act.put, List.setIfInBounds_toArray, List.set_cons_zero, List.set_cons_succ, i64_w, i32_w]
                    rfl
                  refine pure_ (i := 24) (N := some 12) (v := ?_) (a' := ?_) #[true, true, true, true, true, true, true, true, true, true, true, true, true, true, true, true, true, true, true, true, true, true, true, true, true, false] rfl rfl (by kernel_rfl) (fun _ _ _ h => h) (Or.inl ⟨by rfl, ?_⟩) ?_ ?_
                  rotate_left
                  · intro w'
                    go_simp
                    with_reducible rfl
                  rotate_left
                  · simp only [Act.put, List.setIfInBounds_toArray, List.set_cons_zero, List.set_cons_succ, i64_w, i32_w]
                    rfl
                  refine last_ (i := 25) (N := none) #[true, true, true, true, true, true, true, true, true, true, true, true, true, true, true, true, true, true, true, true, true, true, true, true, true, true] rfl rfl (by kernel_rfl) (by decide) (fun K hK => ?_)
                  refine skip_ (w1 := ?_) (by rfl) rfl ?_ ?_
                  rotate_left
                  · go_simp
                    rfl
                  refine hK.out _ _ ?_
                  clear hK K
                  refine done_ (by kernel_rfl) ?_
                  go_wp2_with fail
                  have T2 := T.below (below_alloc (Below.refl _ V) (.cells #[.int .i64 r0, .int .i64 r1] 42))
                  have BX2 := blk_new V (.cells #[.int .i64 r0, .int .i64 r1] 42)
                  clear hHeld
                  clear hHeld s0 s1 s2 s3 s4 s5 s6 HBa BXa fz0 fz1 cz0 cz1 T
                  generalize V.alloc (.cells #[.int .i64 r0, .int .i64 r1] 42) = V2 at T2 BX2 ⊢
                  generalize V.heap.size = h at BX2 ⊢
                  generalize wrap64 (rd ts (e : Int) - rd ts (f : Int)) = x at HPO HPAIR ⊢
                  have HLb : Aside0 ((bs0 ++ prAll R E fs ts e ++ prRow R E fs ts e (f - (e + 1))).length ≤ 30000) := ⟨by
                    have h1 := HL0.out
                    have h2 := prAll_len R E fs ts e hE
                    have h3 := prRow_len R E fs ts e (f - (e + 1))
                    simp only [List.length_append]
                    omega⟩
                  have HBE : Aside0 (∃ bs, bs = bs0 ++ prAll R E fs ts e ++ prRow R E fs ts e (f - (e + 1))) := ⟨_, rfl⟩
                  obtain ⟨bs, hbe⟩ := HBE.out
                  rw [← hbe] at T2 HLb
                  clear HBE
                  have HBE := Aside0.mk hbe
                  have hr1 := HRQ.out
                  have hr0 := HRZ.out
                  clear hbe
                  have T := T2.below (below_drew1 (Below.refl _ V2))
                  have u0 : V2.drew.cell? ⟨h, 0, none⟩ = some (.int .i64 r0) := (blk_cell (blk_drew BX2) 0).trans rfl
                  have u1 : V2.drew.cell? ⟨h, 1, none⟩ = some (.int .i64 r1) := (blk_cell (blk_drew BX2) 1).trans rfl
                  clear T2 BX2
                  refine start_ (n := 19) (S := fun w' => w'.cell? ⟨h, 0, none⟩ = some (.int .i64 r0) ∧ w'.cell? ⟨h, 1, none⟩ = some (.int .i64 r1)) (ds := [16, 17]) #[false, false, false, false, false, false, false, false, false, false, false, false, false, false, false, false, false, false, false] (by kernel_rfl) rfl rfl ⟨u0, u1⟩ (fun hHeld => ?_)
                  generalize V2.drew = V at *
                  refine pure_ (i := 0) (N := some 101) (v := ?_) (a' := ?_) #[true, false, false, false, false, false, false, false, false, false, false, false, false, false, false, false, false, false, false] rfl rfl (by kernel_rfl) (fun _ _ _ h => h) (Or.inl ⟨by rfl, ?_⟩) ?_ ?_
                  rotate_left
                  · intro w'
                    go_simp
                    with_reducible rfl
                  rotate_left
                  · simp only [Act.put, List.setIfInBounds_toArray, List.set_cons_zero, List.set_cons_succ, i64_w, i32_w]
                    rfl
                  refine pure_ (i := 1) (N := some 102) (v := ?_) (a' := ?_) #[true, true, false, false, false, false, false, false, false, false, false, false, false, false, false, false, false, false, false] rfl rfl (by kernel_rfl) (fun _ _ _ h => h) (Or.inl ⟨by rfl, ?_⟩) ?_ ?_
                  rotate_left
                  · intro w'
                    go_simp
                    with_reducible rfl
                  rotate_left
                  · simp only [Act.put, List.setIfInBounds_toArray, List.set_cons_zero, List.set_cons_succ, i64_w, i32_w]
                    rfl
                  refine pure_ (i := 2) (N := some 103) (v := ?_) (a' := ?_) #[true, true, true, false, false, false, false, false, false, false, false, false, false, false, false, false, false, false, false] rfl rfl (by kernel_rfl) (fun _ _ _ h => h) (Or.inl ⟨by rfl, ?_⟩) ?_ ?_
                  rotate_left
                  · intro w'
                    go_simp
                    with_reducible rfl
                  rotate_left
                  · simp only [Act.put, List.setIfInBounds_toArray, List.set_cons_zero, List.set_cons_succ, i64_w, i32_w]
                    rfl
                  refine pure_ (i := 3) (N := some 104) (v := ?_) (a' := ?_) #[true, true, true, true, false, false, false, false, false, false, false, false, false, false, false, false, false, false, false] rfl rfl (by kernel_rfl) (fun _ _ _ h => h) (Or.inl ⟨by rfl, ?_⟩) ?_ ?_
                  rotate_left
                  · intro w'
                    go_simp
                    with_reducible rfl
                  rotate_left
                  · simp only [Act.put, List.setIfInBounds_toArray, List.set_cons_zero, List.set_cons_succ, i64_w, i32_w]
                    rfl
                  refine pure_ (i := 4) (N := some 105) (v := ?_) (a' := ?_) #[true, true, true, true, true, false, false, false, false, false, false, false, false, false, false, false, false, false, false] rfl rfl (by kernel_rfl) (fun _ _ _ h => h) (Or.inl ⟨by rfl, ?_⟩) ?_ ?_
                  rotate_left
                  · intro w'
                    go_simp
                    with_reducible rfl
                  rotate_left
                  · simp only [Act.put, List.setIfInBounds_toArray, List.set_cons_zero, List.set_cons_succ, i64_w, i32_w]
                    rfl
                  refine pure_ (i := 8) (N := some 109) (v := ?_) (a' := ?_) #[true, true, true, true, true, false, false, false, true, false, false, false, false, false, false, false, false, false, false] rfl rfl (by kernel_rfl) (fun _ _ _ h => h) (Or.inl ⟨by rfl, ?_⟩) ?_ ?_
                  rotate_left
                  · intro w'
                    go_simp
                    with_reducible rfl
                  rotate_left
                  · simp only [Act.put, List.setIfInBounds_toArray, List.set_cons_zero, List.set_cons_succ, i64_w, i32_w]
                    rfl
                  refine pure_ (i := 9) (N := some 110) (v := ?_) (a' := ?_) #[true, true, true, true, true, false, false, false, true, true, false, false, false, false, false, false, false, false, false] rfl rfl (by kernel_rfl) (fun _ _ _ h => h) (Or.inl ⟨by rfl, ?_⟩) ?_ ?_
                  rotate_left
                  · intro w'
                    go_simp
                    with_reducible rfl
                  rotate_left
                  · simp only [Act.put, List.setIfInBounds_toArray, List.set_cons_zero, List.set_cons_succ, i64_w, i32_w]
                    rfl
                  refine pure_ (i := 10) (N := some 111) (v := ?_) (a' := ?_) #[true, true, true, true, true, false, false, false, true, true, true, false, false, false, false, false, false, false, false] rfl rfl (by kernel_rfl) (fun _ _ _ h => h) (Or.inl ⟨by rfl, ?_⟩) ?_ ?_
                  rotate_left
                  · intro w'
                    go_simp
                    with_reducible rfl
                  rotate_left
                  · simp only [Act.put, List.setIfInBounds_toArray, List.set_cons_zero, List.set_cons_succ, i64_w, i32_w]
                    rfl
                  refine pure_ (i := 11) (N := some 112) (v := ?_) (a' := ?_) #[true, true, true, true, true, false, false, false, true, true, true, true, false, false, false, false, false, false, false] rfl rfl (by kernel_rfl) (fun _ _ _ h => h) (Or.inl ⟨by rfl, ?_⟩) ?_ ?_
                  rotate_left
                  · intro w'
                    go_simp
                    with_reducible rfl
                  rotate_left
                  · simp only [Act.put, List.setIfInBounds_toArray, List.set_cons_zero, List.set_cons_succ, i64_w, i32_w]
                    rfl
                  refine take_ (i := 5) (N := some 106) (v := ?_) (a' := ?_) #[true, true, true, true, true, true, false, false, true, true, true, true, false, false, false, false, false, false, false] rfl rfl (by kernel_rfl) (fun _ _ _ h => h) (Or.inl ⟨by rfl, ?_⟩) hHeld ?_ ?_
                  rotate_left
                  · rintro w' ⟨s0, s1⟩
                    go_simp
                    with_reducible rfl
                  rotate_left
                  · simp only [Act.put, List.setIfInBounds_toArray, List.set_cons_zero, List.set_cons_succ, i64_w, i32_w]
                    rfl
                  refine pure_ (i := 6) (N := some 107) (v := ?_) (a' := ?_) #[true, true, true, true, true, true, true, false, true, true, true, true, false, false, false, false, false, false, false] rfl rfl (by kernel_rfl) (fun _ _ _ h => h) (Or.inl ⟨by rfl, ?_⟩) ?_ ?_
                  rotate_left
                  · intro w'
                    go_simp
                    with_reducible rfl
                  rotate_left
                  · simp only [Act.put, List.setIfInBounds_toArray, List.set_cons_zero, List.set_cons_succ, i64_w, i32_w]
                    rfl
                  refine pure_ (i := 7) (N := some 108) (v := ?_) (a' := ?_) #[true, true, true, true, true, true, true, true, true, true, true, true, false, false, false, false, false, false, false] rfl rfl (by kernel_rfl) (fun _ _ _ h => h) (Or.inl ⟨by rfl, ?_⟩) ?_ ?_
                  rotate_left
                  · intro w'
                    go_simp
                    with_reducible rfl
                  rotate_left
                  · simp only [Act.put, List.setIfInBounds_toArray, List.set_cons_zero, List.set_cons_succ, i64_w, i32_w]
                    rfl
                  refine take_ (i := 12) (N := some 113) (v := ?_) (a' := ?_) #[true, true, true, true, true, true, true, true, true, true, true, true, true, false, false, false, false, false, false] rfl rfl (by kernel_rfl) (fun _ _ _ h => h) (Or.inl ⟨by rfl, ?_⟩) hHeld ?_ ?_
                  rotate_left
                  · rintro w' ⟨s0, s1⟩
                    go_simp
                    with_reducible rfl
                  rotate_left
                  · simp only [Act.put, List.setIfInBounds_toArray, List.set_cons_zero, List.set_cons_succ, i64_w, i32_w]
                    rfl
                  refine one_ (i := 13) (N := some 114) #[true, true, true, true, true, true, true, true, true, true, true, true, true, true, false, false, false, false, false] rfl rfl (by kernel_rfl) (by decide) (fun K hK => ?_)
                  refine goes_ Try.func74 (by kernel_rfl) rfl #[.int .i64 x, .int .i64 r1] (by rfl) rfl rfl (by simp only [List.map_toArray, List.map_cons, List.map_nil]; rfl) ?_
                  with_reducible refine (up_any' x r1 hr1 _).mono ?_
                  rintro e w3 ⟨rfl, rfl⟩
                  refine ⟨_, rfl, ?_⟩
                  refine hK.out _ _ ⟨u0, u1⟩ (fun hHeld => ?_)
                  clear hK K
                  refine norm_ (a' := ?_) ?_ ?_
                  rotate_left
                  · show Act.put _ (some 114) _ = _
                    simp only [Act.put, List.setIfInBounds_toArray, List.set_cons_zero, List.set_cons_succ, i64_w, i32_w]
                    rfl
                  refine pure_ (i := 14) (N := some 115) (v := ?_) (a' := ?_) #[true, true, true, true, true, true, true, true, true, true, true, true, true, true, true, false, false, false, false] rfl rfl (by kernel_rfl) (fun _ _ _ h => h) (Or.inl ⟨by rfl, ?_⟩) ?_ ?_
                  rotate_left
                  · intro w'
                    go_simp
                    with_reducible rfl
                  rotate_left
                  · simp only [Act.put, List.setIfInBounds_toArray, List.set_cons_zero, List.set_cons_succ, i64_w, i32_w]
                    rfl
                  refine pure_ (i := 15) (N := some 116) (v := ?_) (a' := ?_) #[true, true, true, true, true, true, true, true, true, true, true, true, true, true, true, true, false, false, false] rfl rfl (by kernel_rfl) (fun _ _ _ h => h) (Or.inl ⟨by rfl, ?_⟩) ?_ ?_
                  rotate_left
                  · intro w'
                    go_simp
                    with_reducible rfl
                  rotate_left
                  · simp only [Act.put, List.setIfInBounds_toArray, List.set_cons_zero, List.set_cons_succ, i64_w, i32_w]
                    rfl
                  refine last_ (i := 16) (N := some 117) #[true, true, true, true, true, true, true, true, true, true, true, true, true, true, true, true, true, false, false] rfl rfl (by kernel_rfl) (by decide) (fun K hK => ?_)
                  refine value_ (w1 := ?_) (v := ?_) (by rfl) rfl ?_ ?_
                  rotate_left 2
                  · go_simp
                    constructor
                    · rfl
                    · rfl
                  have BXl := blk_new V (.cells #[.int .i64 (f : Int), .int .i64 (e : Int), .int .i64 (wrap64 (Int.tdiv x r0)), .int .i64 (e : Int), .int .i64 (f : Int), .int .i64 (wrap64 (-(upR x r1)))] 27)
                  have Tl := T.below (below_alloc (Below.refl _ V) (.cells #[.int .i64 (f : Int), .int .i64 (e : Int), .int .i64 (wrap64 (Int.tdiv x r0)), .int .i64 (e : Int), .int .i64 (f : Int), .int .i64 (wrap64 (-(upR x r1)))] 27))
                  refine hK.out _ _ ?_
                  clear hK K
                  refine norm_ (a' := ?_) ?_ ?_
                  rotate_left
                  · show Act.put _ (some 117) _ = _
                    simp only [Act.put, List.setIfInBounds_toArray, List.set_cons_zero, List.set_cons_succ, i64_w, i32_w]
                    rfl
                  refine last_ (i := 17) (N := some 118) #[true, true, true, true, true, true, true, true, true, true, true, true, true, true, true, true, true, true, false] rfl rfl (by kernel_rfl) (by decide) (fun K hK => ?_)
                  refine out_append_step (w := w) (by rfl) (.tmp 101) (.tmp 117) rfl u3 _ bs [(⟨(f : Int), (e : Int), wrap64 (Int.tdiv x r0)⟩ : S27), (⟨(e : Int), (f : Int), wrap64 (-(upR x r1))⟩ : S27)] rfl rfl Tl.out (litC2 (p := (⟨(f : Int), (e : Int), wrap64 (Int.tdiv x r0)⟩ : S27)) (q := (⟨(e : Int), (f : Int), wrap64 (-(upR x r1))⟩ : S27)) BXl) (by have := HLb.out; simp; omega) ?_
                  intro v5 V5 T5 g5
                  have T5' := Tl.append T5 g5
                  refine hK.out _ _ ?_
                  clear hK K
                  refine norm_ (a' := ?_) ?_ ?_
                  rotate_left
                  · show Act.put _ (some 118) _ = _
                    simp only [Act.put, List.setIfInBounds_toArray, List.set_cons_zero, List.set_cons_succ, i64_w, i32_w]
                    rfl
                  refine pure_ (i := 18) (N := some 3) (v := ?_) (a' := ?_) #[true, true, true, true, true, true, true, true, true, true, true, true, true, true, true, true, true, true, true] rfl rfl (by kernel_rfl) (fun _ _ _ h => h) (Or.inl ⟨by rfl, ?_⟩) ?_ ?_
                  rotate_left
                  · intro w'
                    go_simp
                    with_reducible rfl
                  rotate_left
                  · simp only [Act.put, List.setIfInBounds_toArray, List.set_cons_zero, List.set_cons_succ, i64_w, i32_w]
                    rfl
                  refine done_ (by kernel_rfl) ?_
                  go_wp2_with fail
                  go_roundw
                  case rel => exact ⟨f + 1, by go_num, by omega, by omega, ⟨by rw [HW.out, HPO.out, HPAIR.out, ← List.append_assoc, ← HBE.out]; exact T5'⟩⟩
                  case measure => simp [intOf]; omega
                · have hswb : decide (rd ts (f : Int) < rd ts (e : Int)) = false := by simpa using hsw
                  have hpo : pairOne R E fs ts e f = pairAB R E (wrap64 (rd ts (f : Int) - rd ts (e : Int))) e e f := by unfold pairOne; rw [if_pos HF.out, if_neg hsw]
                  have HPO := Aside0.mk hpo
                  clear hsw hpo
                  go_quiet (fail)
                  have T := T1.below (pw_below_drewN (Below.refl _ V1) nq)
                  go_wp2_with fail
                  generalize V1.drewN nq = V0 at T ⊢
                  have T := T.below (below_drew1 (Below.refl _ V0))
                  have s0 := relt T.tk f (by have := HLt.out; omega)
                  have s1 := relt T.tk e (by have := HLt.out; omega)
                  have s2 := (T.out.2.cell (World.block_lt_of_cell? w _ p0w.out)).trans p0w.out
                  have s3 := (T.out.2.cell (World.block_lt_of_cell? w _ p1w.out)).trans p1w.out
                  obtain ⟨_, eq1, s4, _⟩ := at_T80 G3.out (e : Int) (by omega) (by omega)
                  cases eq1
                  replace s4 := (T.out.2.cell (World.block_lt_of_cell? w _ s4)).trans s4
                  simp only [Int.toNat_natCast] at s4
                  obtain ⟨pl0, pl1⟩ := HV.out.place e helt
                  obtain ⟨hr0, hr1⟩ := HV.out.rate _ pl0 pl1
                  obtain ⟨_, eq2, s5, s6⟩ := at_T42 G2.out _ pl0 pl1
                  cases eq2
                  replace s5 := (T.out.2.cell (World.block_lt_of_cell? w _ s5)).trans s5
                  replace s6 := (T.out.2.cell (World.block_lt_of_cell? w _ s6)).trans s6
                  have HPL : Aside0 (∃ p r q, p = (rd_T80 E (e : Int)).f0 ∧ r = (rd_T42 R p).f0 ∧ q = (rd_T42 R p).f1) := ⟨_, _, _, rfl, rfl, rfl⟩
                  obtain ⟨pl, r0, r1, hpl, hr0', hr1'⟩ := HPL.out
                  clear HPL
                  rw [← hpl] at s4 s5 s6 pl0 pl1 hr0 hr1
                  rw [← hr0'] at s5 hr0
                  rw [← hr1'] at s6 hr1
                  have hpair : pairAB R E (wrap64 (rd ts (f : Int) - rd ts (e : Int))) e e f = [⟨(e : Int), (f : Int), wrap64 (Int.tdiv (wrap64 (rd ts (f : Int) - rd ts (e : Int))) r0)⟩, ⟨(f : Int), (e : Int), wrap64 (-(upR (wrap64 (rd ts (f : Int) - rd ts (e : Int))) r1))⟩] := by unfold pairAB; rw [← hpl, ← hr0', ← hr1']
                  have HPAIR := Aside0.mk hpair
                  have HRQ := Aside0.mk hr1
                  have HRZ := Aside0.mk hr0
                  clear hpair hr0 hr1 hpl hr0' hr1'
                  have q0 : (e : Int) < (ts.length : Int) := by have := HLt.out; omega
                  have q1 : (f : Int) < (ts.length : Int) := by have := HLt.out; omega
                  refine start_ (n := 26) (S := fun w' => w'.cell? (ad7.add f) = some (.int .i64 (rd ts (f : Int))) ∧ w'.cell? (ad7.add e) = some (.int .i64 (rd ts (e : Int))) ∧ w'.cell? ⟨g, 0, none⟩ = some (.slice (some ad0) R.length c0) ∧ w'.cell? ⟨g, 1, none⟩ = some (.slice (some ad1) E.length c1) ∧ w'.cell? (ad1.add (e * 6)) = some (.int .i64 pl) ∧ w'.cell? (ad0.add (pl.toNat * 2)) = some (.int .i64 r0) ∧ w'.cell? ⟨(ad0.add (pl.toNat * 2)).block, (ad0.add (pl.toNat * 2)).off + 1, none⟩ = some (.int .i64 r1)) (ds := [25]) #[false, false, false, false, false, false, false, false, false, false, false, false, false, false, false, false, false, false, false, false, false, false, false, false, false, false] (by kernel_rfl) rfl rfl ⟨s0, s1, s2, s3, s4, s5, s6⟩ (fun hHeld => ?_)
                  generalize V0.drew = V at *
                  refine pure_ (i := 0) (N := some 78) (v := ?_) (a' := ?_) #[true, false, false, false, false, false, false, false, false, false, false, false, false, false, false, false, false, false, false, false, false, false, false, false, false, false] rfl rfl (by kernel_rfl) (fun _ _ _ h => h) (Or.inl ⟨by rfl, ?_⟩) ?_ ?_
                  rotate_left
                  · intro w'
                    go_simp
                    with_reducible rfl
                  rotate_left
                  · simp only [Act.put, List.setIfInBounds_toArray, List.set_cons_zero, List.set_cons_succ, i64_w, i32_w]
                    rfl
                  refine pure_ (i := 1) (N := some 79) (v := ?_) (a' := ?_) #[true, true, false, false, false, false, false, false, false, false, false, false, false, false, false, false, false, false, false, false, false, false, false, false, false, false] rfl rfl (by kernel_rfl) (fun _ _ _ h => h) (Or.inl ⟨by rfl, ?_⟩) ?_ ?_
                  rotate_left
                  · intro w'
                    go_simp
                    with_reducible rfl
                  rotate_left
                  · simp only [Act.put, List.setIfInBounds_toArray, List.set_cons_zero, List.set_cons_succ, i64_w, i32_w]
                    rfl
                  refine pure_ (i := 2) (N := some 80) (v := ?_) (a' := ?_) #[true, true, true, false, false, false, false, false, false, false, false, false, false, false, false, false, false, false, false, false, false, false, false, false, false, false] rfl rfl (by kernel_rfl) (fun _ _ _ h => h) (Or.inl ⟨by rfl, ?_⟩) ?_ ?_
                  rotate_left
                  · intro w'
                    go_simp
                    with_reducible rfl
                  rotate_left
                  · simp only [Act.put, List.setIfInBounds_toArray, List.set_cons_zero, List.set_cons_succ, i64_w, i32_w]
                    rfl
                  refine pure_ (i := 4) (N := some 82) (v := ?_) (a' := ?_) #[true, true, true, false, true, false, false, false, false, false, false, false, false, false, false, false, false, false, false, false, false, false, false, false, false, false] rfl rfl (by kernel_rfl) (fun _ _ _ h => h) (Or.inl ⟨by rfl, ?_⟩) ?_ ?_
                  rotate_left
                  · intro w'
                    go_simp
                    with_reducible rfl
                  rotate_left
                  · simp only [Act.put, List.setIfInBounds_toArray, List.set_cons_zero, List.set_cons_succ, i64_w, i32_w]
                    rfl
                  refine pure_ (i := 5) (N := some 83) (v := ?_) (a' := ?_) #[true, true, true, false, true, true, false, false, false, false, false, false, false, false, false, false, false, false, false, false, false, false, false, false, false, false] rfl rfl (by kernel_rfl) (fun _ _ _ h => h) (Or.inl ⟨by rfl, ?_⟩) ?_ ?_
                  rotate_left
                  · intro w'
                    go_simp
                    with_reducible rfl
                  rotate_left
                  · simp only [Act.put, List.setIfInBounds_toArray, List.set_cons_zero, List.set_cons_succ, i64_w, i32_w]
                    rfl
                  refine pure_ (i := 6) (N := some 84) (v := ?_) (a' := ?_) #[true, true, true, false, true, true, true, false, false, false, false, false, false, false, false, false, false, false, false, false, false, false, false, false, false, false] rfl rfl (by kernel_rfl) (fun _ _ _ h => h) (Or.inl ⟨by rfl, ?_⟩) ?_ ?_
                  rotate_left
                  · intro w'
                    go_simp
                    with_reducible rfl
                  rotate_left
                  · simp only [Act.put, List.setIfInBounds_toArray, List.set_cons_zero, List.set_cons_succ, i64_w, i32_w]
                    rfl
                  refine pure_ (i := 9) (N := some 87) (v := ?_) (a' := ?_) #[true, true, true, false, true, true, true, false, false, true, false, false, false, false, false, false, false, false, false, false, false, false, false, false, false, false] rfl rfl (by kernel_rfl) (fun _ _ _ h => h) (Or.inl ⟨by rfl, ?_⟩) ?_ ?_
                  rotate_left
                  · intro w'
                    go_simp
                    with_reducible rfl
                  rotate_left
                  · simp only [Act.put, List.setIfInBounds_toArray, List.set_cons_zero, List.set_cons_succ, i64_w, i32_w]
                    rfl
                  refine pure_ (i := 10) (N := some 88) (v := ?_) (a' := ?_) #[true, true, true, false, true, true, true, false, false, true, true, false, false, false, false, false, false, false, false, false, false, false, false, false, false, false] rfl rfl (by kernel_rfl) (fun _ _ _ h => h) (Or.inl ⟨by rfl, ?_⟩) ?_ ?_
                  rotate_left
                  · intro w'
                    go_simp
                    with_reducible rfl
                  rotate_left
                  · simp only [Act.put, List.setIfInBounds_toArray, List.set_cons_zero, List.set_cons_succ, i64_w, i32_w]
                    rfl
                  refine pure_ (i := 11) (N := some 89) (v := ?_) (a' := ?_) #[true, true, true, false, true, true, true, false, false, true, true, true, false, false, false, false, false, false, false, false, false, false, false, false, false, false] rfl rfl (by kernel_rfl) (fun _ _ _ h => h) (Or.inl ⟨by rfl, ?_⟩) ?_ ?_
                  rotate_left
                  · intro w'
                    go_simp
                    with_reducible rfl
                  rotate_left
                  · simp only [Act.put, List.setIfInBounds_toArray, List.set_cons_zero, List.set_cons_succ, i64_w, i32_w]
                    rfl
                  refine pure_ (i := 13) (N := some 91) (v := ?_) (a' := ?_) #[true, true, true, false, true, true, true, false, false, true, true, true, false, true, false, false, false, false, false, false, false, false, false, false, false, false] rfl rfl (by kernel_rfl) (fun _ _ _ h => h) (Or.inl ⟨by rfl, ?_⟩) ?_ ?_
                  rotate_left
                  · intro w'
                    go_simp
                    with_reducible rfl
                  rotate_left
                  · simp only [Act.put, List.setIfInBounds_toArray, List.set_cons_zero, List.set_cons_succ, i64_w, i32_w]
                    rfl
                  refine pure_ (i := 14) (N := some 92) (v := ?_) (a' := ?_) #[true, true, true, false, true, true, true, false, false, true, true, true, false, true, true, false, false, false, false, false, false, false, false, false, false, false] rfl rfl (by kernel_rfl) (fun _ _ _ h => h) (Or.inl ⟨by rfl, ?_⟩) ?_ ?_
                  rotate_left
                  · intro w'
                    go_simp
                    with_reducible rfl
                  rotate_left
                  · simp only [Act.put, List.setIfInBounds_toArray, List.set_cons_zero, List.set_cons_succ, i64_w, i32_w]
                    rfl
                  refine pure_ (i := 15) (N := some 93) (v := ?_) (a' := ?_) #[true, true, true, false, true, true, true, false, false, true, true, true, false, true, true, true, false, false, false, false, false, false, false, false, false, false] rfl rfl (by kernel_rfl) (fun _ _ _ h => h) (Or.inl ⟨by rfl, ?_⟩) ?_ ?_
                  rotate_left
                  · intro w'
                    go_simp
                    with_reducible rfl
                  rotate_left
                  · simp only [Act.put, List.setIfInBounds_toArray, List.set_cons_zero, List.set_cons_succ, i64_w, i32_w]
                    rfl
                  refine pure_ (i := 17) (N := some 95) (v := ?_) (a' := ?_) #[true, true, true, false, true, true, true, false, false, true, true, true, false, true, true, true, false, true, false, false, false, false, false, false, false, false] rfl rfl (by kernel_rfl) (fun _ _ _ h => h) (Or.inl ⟨by rfl, ?_⟩) ?_ ?_
                  rotate_left
                  · intro w'
                    go_simp
                    with_reducible rfl
                  rotate_left
                  · simp only [Act.put, List.setIfInBounds_toArray, List.set_cons_zero, List.set_cons_succ, i64_w, i32_w]
                    rfl
                  refine take_ (i := 3) (N := some 81) (v := ?_) (a' := ?_) #[true, true, true, true, true, true, true, false, false, true, true, true, false, true, true, true, false, true, false, false, false, false, false, false, false, false] rfl rfl (by kernel_rfl) (fun _ _ _ h => h) (Or.inl ⟨by rfl, ?_⟩) hHeld ?_ ?_
                  rotate_left
                  · rintro w' ⟨s0, s1, s2, s3, s4, s5, s6⟩
                    go_simp
                    with_reducible rfl
                  rotate_left
                  · simp only [Act.put, List.setIfInBounds_toArray, List.set_cons_zero, List.set_cons_succ, i64_w, i32_w]
                    rfl
                  refine take_ (i := 7) (N := some 85) (v := ?_) (a' := ?_) #[true, true, true, true, true, true, true, true, false, true, true, true, false, true, true, true, false, true, false, false, false, false, false, false, false, false] rfl rfl (by kernel_rfl) (fun _ _ _ h => h) (Or.inl ⟨by rfl, ?_⟩) hHeld ?_ ?_
                  rotate_left
                  · rintro w' ⟨s0, s1, s2, s3, s4, s5, s6⟩
                    go_simp
                    with_reducible rfl
                  rotate_left
                  · simp only [Act.put, List.setIfInBounds_toArray, List.set_cons_zero, List.set_cons_succ, i64_w, i32_w]
                    rfl
                  refine pure_ (i := 8) (N := some 86) (v := ?_) (a' := ?_) #[true, true, true, true, true, true, true, true, true, true, true, true, false, true, true, true, false, true, false, false, false, false, false, false, false, false] rfl rfl (by kernel_rfl) (fun _ _ _ h => h) (Or.inl ⟨by rfl, ?_⟩) ?_ ?_
                  rotate_left
                  · intro w'
                    go_simp
                    with_reducible rfl
                  rotate_left
                  · simp only [Act.put, List.setIfInBounds_toArray, List.set_cons_zero, List.set_cons_succ, i64_w, i32_w]
                    rfl
                  refine take_ (i := 12) (N := some 90) (v := ?_) (a' := ?_) #[true, true, true, true, true, true, true, true, true, true, true, true, true, true, true, true, false, true, false, false, false, false, false, false, false, false] rfl rfl (by kernel_rfl) (fun _ _ _ h => h) (Or.inl ⟨by rfl, ?_⟩) hHeld ?_ ?_
                  rotate_left
                  · rintro w' ⟨s0, s1, s2, s3, s4, s5, s6⟩
                    go_simp
                    with_reducible rfl
                  rotate_left
                  · simp only [Act.put, List.setIfInBounds_toArray, List.set_cons_zero, List.set_cons_succ, i64_w, i32_w]
                    rfl
                  refine take_ (i := 16) (N := some 94) (v := ?_) (a' := ?_) #[true, true, true, true, true, true, true, true, true, true, true, true, true, true, true, true, true, true, false, false, false, false, false, false, false, false] rfl rfl (by kernel_rfl) (fun _ _ _ h => h) (Or.inl ⟨by rfl, ?_⟩) hHeld ?_ ?_
                  rotate_left
                  · rintro w' ⟨s0, s1, s2, s3, s4, s5, s6⟩
                    go_simp
                    with_reducible rfl
                  rotate_left
                  · simp only [Act.put, List.setIfInBounds_toArray, List.set_cons_zero, List.set_cons_succ, i64_w, i32_w]
                    rfl
                  refine pure_ (i := 18) (N := some 96) (v := ?_) (a' := ?_) #[true, true, true, true, true, true, true, true, true, true, true, true, true, true, true, true, true, true, true, false, false, false, false, false, false, false] rfl rfl (by kernel_rfl) (fun _ _ _ h => h) (Or.inl ⟨by rfl, ?_⟩) ?_ ?_
                  rotate_left
                  · intro w'
                    go_simp
                    with_reducible rfl
                  rotate_left
                  · simp only [Act.put, List.setIfInBounds_toArray, List.set_cons_zero, List.set_cons_succ, i64_w, i32_w]
                    rfl
                  refine pure_ (i := 19) (N := some 97) (v := ?_) (a' := ?_) #[true, true, true, true, true, true, true, true, true, true, true, true, true, true, true, true, true, true, true, true, false, false, false, false, false, false] rfl rfl (by kernel_rfl) (fun _ _ _ h => h) (Or.inl ⟨by rfl, ?_⟩) ?_ ?_
                  rotate_left
                  · intro w'
                    go_simp
                    with_reducible rfl
                  rotate_left
                  · simp only [Act.put, List.setIfInBounds_toArray, List.set_cons_zero, List.set_cons_succ, i64_w, i32_w]
                    rfl
                  refine take_ (i := 20) (N := some 98) (v := ?_) (a' := ?_) #[true, true, true, true, true, true, true, true, true, true, true, true, true, true, true, true, true, true, true, true, true, false, false, false, false, false] rfl rfl (by kernel_rfl) (fun _ _ _ h => h) (Or.inl ⟨by rfl, ?_⟩) hHeld ?_ ?_
                  rotate_left
                  · rintro w' ⟨s0, s1, s2, s3, s4, s5, s6⟩
                    go_simp
                    with_reducible rfl
                  rotate_left
                  · simp only [Act.put, List.setIfInBounds_toArray, List.set_cons_zero, List.set_cons_succ, i64_w, i32_w]
                    rfl
                  refine pure_ (i := 21) (N := some 99) (v := ?_) (a' := ?_) #[true, true, true, true, true, true, true, true, true, true, true, true, true, true, true, true, true, true, true, true, true, true, false, false, false, false] rfl rfl (by kernel_rfl) (fun _ _ _ h => h) (Or.inl ⟨by rfl, ?_⟩) ?_ ?_
                  rotate_left
                  · intro w'
                    go_simp
                    with_reducible rfl
                  rotate_left
                  · simp only [Act.put, List.setIfInBounds_toArray, List.set_cons_zero, List.set_cons_succ, i64_w, i32_w]
                    rfl
                  refine take_ (i := 22) (N := some 100) (v := ?_) (a' := ?_) #[true, true, true, true, true, true, true, true, true, true, true, true, true, true, true, true, true, true, true, true, true, true, true, false, false, false] rfl rfl (by kernel_rfl) (fun _ _ _ h => h) (Or.inl ⟨by rfl, ?_⟩) hHeld ?_ ?_
                  rotate_left
                  · rintro w' ⟨s0, s1, s2, s3, s4, s5, s6⟩
                    go_simp
                    with_reducible rfl
                  rotate_left
                  · simp only [Act.put, List.setIfInBounds_toArray, List.set_cons_zero, List.set_cons_succ, i64_w, i32_w]
                    rfl
                  refine one_ (i := 23) (N := some 13) #[true, true, true, true, true, true, true, true, true, true, true, true, true, true, true, true, true, true, true, true, true, true, true, true, false, false] rfl rfl (by kernel_rfl) (by decide) (fun K hK => ?_)
                  refine value_ (w1 := ?_) (v := ?_) (by rfl) rfl ?_ ?_
                  rotate_left 2
                  · go_simp
                    constructor
                    · rfl
                    · rfl
                  have HBa := below_alloc (Below.refl _ V) (.cells #[.int .i64 0, .int .i64 0] 42)
                  have BXa := blk_new V (.cells #[.int .i64 0, .int .i64 0] 42)
                  have fz0 := blk_frozen BXa 0
                  have fz1 := blk_frozen BXa 1
                  have cz0 : (V.alloc (.cells #[.int .i64 0, .int .i64 0] 42)).cell? ⟨V.heap.size, 0, none⟩ = some (.int .i64 0) := (blk_cell BXa 0).trans rfl
                  have cz1 : (V.alloc (.cells #[.int .i64 0, .int .i64 0] 42)).cell? ⟨V.heap.size, 1, none⟩ = some (.int .i64 0) := (blk_cell BXa 1).trans rfl
                  refine hK.out _ _ ⟨pw_cell_below HBa s0, pw_cell_below HBa s1, pw_cell_below HBa s2, pw_cell_below HBa s3, pw_cell_below HBa s4, pw_cell_below HBa s5, pw_cell_below HBa s6⟩ (fun hHeld => ?_)
                  clear hK K
                  refine norm_ (a' := ?_) ?_ ?_
                  rotate_left
                  · show Act.put _ (some 13) _ = _
                    simp only [Act.put, List.setIfInBounds_toArray, List.set_cons_zero, List.set_cons_succ, i64_w, i32_w]
                    rfl
                  refine pure_ (i := 24) (N := some 12) (v := ?_) (a' := ?_) #[true, true, true, true, true, true, true, true, true, true, true, true, true, true, true, true, true, true, true, true, true, true, true, true, true, false] rfl rfl (by kernel_rfl) (fun _ _ _ h => h) (Or.inl ⟨by rfl, ?_⟩) ?_ ?_
                  rotate_left
                  · intro w'
                    go_simp
                    with_reducible rfl
                  rotate_left
                  · simp only [Act.put, List.setIfInBounds_toArray, List.set_cons_zero, List.set_cons_succ, i64_w, i32_w]
                    rfl
                  refine last_ (i := 25) (N := none) #[true, true, true, true, true, true, true, true, true, true, true, true, true, true, true, true, true, true, true, true, true, true, true, true, true, true] rfl rfl (by kernel_rfl) (by decide) (fun K hK => ?_)
                  refine skip_ (w1 := ?_) (by rfl) rfl ?_ ?_
                  rotate_left
                  · go_simp
                    rfl
                  refine hK.out _ _ ?_
                  clear hK K
                  refine done_ (by kernel_rfl) ?_
                  go_wp2_with fail
                  have T2 := T.below (below_alloc (Below.refl _ V) (.cells #[.int .i64 r0, .int .i64 r1] 42))
                  have BX2 := blk_new V (.cells #[.int .i64 r0, .int .i64 r1] 42)
                  clear hHeld
                  clear hHeld s0 s1 s2 s3 s4 s5 s6 HBa BXa fz0 fz1 cz0 cz1 T
                  generalize V.alloc (.cells #[.int .i64 r0, .int .i64 r1] 42) = V2 at T2 BX2 ⊢
                  generalize V.heap.size = h at BX2 ⊢
                  generalize wrap64 (rd ts (f : Int) - rd ts (e : Int)) = x at HPO HPAIR ⊢
                  have HLb : Aside0 ((bs0 ++ prAll R E fs ts e ++ prRow R E fs ts e (f - (e + 1))).length ≤ 30000) := ⟨by
                    have h1 := HL0.out
                    have h2 := prAll_len R E fs ts e hE
                    have h3 := prRow_len R E fs ts e (f - (e + 1))
                    simp only [List.length_append]
                    omega⟩
                  have HBE : Aside0 (∃ bs, bs = bs0 ++ prAll R E fs ts e ++ prRow R E fs ts e (f - (e + 1))) := ⟨_, rfl⟩
                  obtain ⟨bs, hbe⟩ := HBE.out
                  rw [← hbe] at T2 HLb
                  clear HBE
                  have HBE := Aside0.mk hbe
                  have hr1 := HRQ.out
                  have hr0 := HRZ.out
                  clear hbe
                  have T := T2.below (below_drew1 (Below.refl _ V2))
                  have u0 : V2.drew.cell? ⟨h, 0, none⟩ = some (.int .i64 r0) := (blk_cell (blk_drew BX2) 0).trans rfl
                  have u1 : V2.drew.cell? ⟨h, 1, none⟩ = some (.int .i64 r1) := (blk_cell (blk_drew BX2) 1).trans rfl
                  clear T2 BX2
                  refine start_ (n := 19) (S := fun w' => w'.cell? ⟨h, 0, none⟩ = some (.int .i64 r0) ∧ w'.cell? ⟨h, 1, none⟩ = some (.int .i64 r1)) (ds := [16, 17]) #[false, false, false, false, false, false, false, false, false, false, false, false, false, false, false, false, false, false, false] (by kernel_rfl) rfl rfl ⟨u0, u1⟩ (fun hHeld => ?_)
                  generalize V2.drew = V at *
                  refine pure_ (i := 0) (N := some 101) (v := ?_) (a' := ?_) #[true, false, false, false, false, false, false, false, false, false, false, false, false, false, false, false, false, false, false] rfl rfl (by kernel_rfl) (fun _ _ _ h => h) (Or.inl ⟨by rfl, ?_⟩) ?_ ?_
                  rotate_left
                  · intro w'
                    go_simp
                    with_reducible rfl
                  rotate_left
                  · simp only [Act.put, List.setIfInBounds_toArray, List.set_cons_zero, List.set_cons_succ, i64_w, i32_w]
                    rfl
                  refine pure_ (i := 1) (N := some 102) (v := ?_) (a' := ?_) #[true, true, false, false, false, false, false, false, false, false, false, false, false, false, false, false, false, false, false] rfl rfl (by kernel_rfl) (fun _ _ _ h => h) (Or.inl ⟨by rfl, ?_⟩) ?_ ?_
                  rotate_left
                  · intro w'
                    go_simp
                    with_reducible rfl
                  rotate_left
                  · simp only [Act.put, List.setIfInBounds_toArray, List.set_cons_zero, List.set_cons_succ, i64_w, i32_w]
                    rfl
                  refine pure_ (i := 2) (N := some 103) (v := ?_) (a' := ?_) #[true, true, true, false, false, false, false, false, false, false, false, false, false, false, false, false, false, false, false] rfl rfl (by kernel_rfl) (fun _ _ _ h => h) (Or.inl ⟨by rfl, ?_⟩) ?_ ?_
                  rotate_left
                  · intro w'
                    go_simp
                    with_reducible rfl
                  rotate_left
                  · simp only [Act.put, List.setIfInBounds_toArray, List.set_cons_zero, List.set_cons_succ, i64_w, i32_w]
                    rfl
                  refine pure_ (i := 3) (N := some 104) (v := ?_) (a' := ?_) #[true, true, true, true, false, false, false, false, false, false, false, false, false, false, false, false, false, false, false] rfl rfl (by kernel_rfl) (fun _ _ _ h => h) (Or.inl ⟨by rfl, ?_⟩) ?_ ?_
                  rotate_left
                  · intro w'
                    go_simp
                    with_reducible rfl
                  rotate_left
                  · simp only [Act.put, List.setIfInBounds_toArray, List.set_cons_zero, List.set_cons_succ, i64_w, i32_w]
                    rfl
                  refine pure_ (i := 4) (N := some 105) (v := ?_) (a' := ?_) #[true, true, true, true, true, false, false, false, false, false, false, false, false, false, false, false, false, false, false] rfl rfl (by kernel_rfl) (fun _ _ _ h => h) (Or.inl ⟨by rfl, ?_⟩) ?_ ?_
                  rotate_left
                  · intro w'
                    go_simp
                    with_reducible rfl
                  rotate_left
                  · simp only [Act.put, List.setIfInBounds_toArray, List.set_cons_zero, List.set_cons_succ, i64_w, i32_w]
                    rfl
                  refine pure_ (i := 8) (N := some 109) (v := ?_) (a' := ?_) #[true, true, true, true, true, false, false, false, true, false, false, false, false, false, false, false, false, false, false] rfl rfl (by kernel_rfl) (fun _ _ _ h => h) (Or.inl ⟨by rfl, ?_⟩) ?_ ?_
                  rotate_left
                  · intro w'
                    go_simp
                    with_reducible rfl
                  rotate_left
                  · simp only [Act.put, List.setIfInBounds_toArray, List.set_cons_zero, List.set_cons_succ, i64_w, i32_w]
                    rfl
                  refine pure_ (i := 9) (N := some 110) (v := ?_) (a' := ?_) #[true, true, true, true, true, false, false, false, true, true, false, false, false, false, false, false, false, false, false] rfl rfl (by kernel_rfl) (fun _ _ _ h => h) (Or.inl ⟨by rfl, ?_⟩) ?_ ?_
                  rotate_left
                  · intro w'
                    go_simp
                    with_reducible rfl
                  rotate_left
                  · simp only [Act.put, List.setIfInBounds_toArray, List.set_cons_zero, List.set_cons_succ, i64_w, i32_w]
                    rfl
                  refine pure_ (i := 10) (N := some 111) (v := ?_) (a' := ?_) #[true, true, true, true, true, false, false, false, true, true, true, false, false, false, false, false, false, false, false] rfl rfl (by kernel_rfl) (fun _ _ _ h => h) (Or.inl ⟨by rfl, ?_⟩) ?_ ?_
                  rotate_left
                  · intro w'
                    go_simp
                    with_reducible rfl
                  rotate_left
                  · simp only [Act.put, List.setIfInBounds_toArray, List.set_cons_zero, List.set_cons_succ, i64_w, i32_w]
                    rfl
                  refine pure_ (i := 11) (N := some 112) (v := ?_) (a' := ?_) #[true, true, true, true, true, false, false, false, true, true, true, true, false, false, false, false, false, false, false] rfl rfl (by kernel_rfl) (fun _ _ _ h => h) (Or.inl ⟨by rfl, ?_⟩) ?_ ?_
                  rotate_left
                  · intro w'
                    go_simp
                    with_reducible rfl
                  rotate_left
                  · simp only [Act.put, List.setIfInBounds_toArray, List.set_cons_zero, List.set_cons_succ, i64_w, i32_w]
                    rfl
                  refine take_ (i := 5) (N := some 106) (v := ?_) (a' := ?_) #[true, true, true, true, true, true, false, false, true, true, true, true, false, false, false, false, false, false, false] rfl rfl (by kernel_rfl) (fun _ _ _ h => h) (Or.inl ⟨by rfl, ?_⟩) hHeld ?_ ?_
                  rotate_left
                  · rintro w' ⟨s0, s1⟩
                    go_simp
                    with_reducible rfl
                  rotate_left
                  · simp only [Act.put, List.setIfInBounds_toArray, List.set_cons_zero, List.set_cons_succ, i64_w, i32_w]
                    rfl
                  refine pure_ (i := 6) (N := some 107) (v := ?_) (a' := ?_) #[true, true, true, true, true, true, true, false, true, true, true, true, false, false, false, false, false, false, false] rfl rfl (by kernel_rfl) (fun _ _ _ h => h) (Or.inl ⟨by rfl, ?_⟩) ?_ ?_
                  rotate_left
                  · intro w'
                    go_simp
                    with_reducible rfl
                  rotate_left
                  · simp only [Act.put, List.setIfInBounds_toArray, List.set_cons_zero, List.set_cons_succ, i64_w, i32_w]
                    rfl
                  refine pure_ (i := 7) (N := some 108) (v := ?_) (a' := ?_) #[true, true, true, true, true, true, true, true, true, true, true, true, false, false, false, false, false, false, false] rfl rfl (by kernel_rfl) (fun _ _ _ h => h) (Or.inl ⟨by rfl, ?_⟩) ?_ ?_
                  rotate_left
                  · intro w'
                    go_simp
                    with_reducible rfl
                  rotate_left
                  · simp only [Act.put, List.setIfInBounds_toArray, List.set_cons_zero, List.set_cons_succ, i64_w, i32_w]
                    rfl
                  refine take_ (i := 12) (N := some 113) (v := ?_) (a' := ?_) #[true, true, true, true, true, true, true, true, true, true, true, true, true, false, false, false, false, false, false] rfl rfl (by kernel_rfl) (fun _ _ _ h => h) (Or.inl ⟨by rfl, ?_⟩) hHeld ?_ ?_
                  rotate_left
                  · rintro w' ⟨s0, s1⟩
                    go_simp
                    with_reducible rfl
                  rotate_left
                  · simp only [Act.put, List.setIfInBounds_toArray, List.set_cons_zero, List.set_cons_succ, i64_w, i32_w]
                    rfl
                  refine one_ (i := 13) (N := some 114) #[true, true, true, true, true, true, true, true, true, true, true, true, true, true, false, false, false, false, false] rfl rfl (by kernel_rfl) (by decide) (fun K hK => ?_)
                  refine goes_ Try.func74 (by kernel_rfl) rfl #[.int .i64 x, .int .i64 r1] (by rfl) rfl rfl (by simp only [List.map_toArray, List.map_cons, List.map_nil]; rfl) ?_
                  with_reducible refine (up_any' x r1 hr1 _).mono ?_
                  rintro e w3 ⟨rfl, rfl⟩
                  refine ⟨_, rfl, ?_⟩
                  refine hK.out _ _ ⟨u0, u1⟩ (fun hHeld => ?_)
                  clear hK K
                  refine norm_ (a' := ?_) ?_ ?_
                  rotate_left
                  · show Act.put _ (some 114) _ = _
                    simp only [Act.put, List.setIfInBounds_toArray, List.set_cons_zero, List.set_cons_succ, i64_w, i32_w]
                    rfl
                  refine pure_ (i := 14) (N := some 115) (v := ?_) (a' := ?_) #[true, true, true, true, true, true, true, true, true, true, true, true, true, true, true, false, false, false, false] rfl rfl (by kernel_rfl) (fun _ _ _ h => h) (Or.inl ⟨by rfl, ?_⟩) ?_ ?_
                  rotate_left
                  · intro w'
                    go_simp
                    with_reducible rfl
                  rotate_left
                  · simp only [Act.put, List.setIfInBounds_toArray, List.set_cons_zero, List.set_cons_succ, i64_w, i32_w]
                    rfl
                  refine pure_ (i := 15) (N := some 116) (v := ?_) (a' := ?_) #[true, true, true, true, true, true, true, true, true, true, true, true, true, true, true, true, false, false, false] rfl rfl (by kernel_rfl) (fun _ _ _ h => h) (Or.inl ⟨by rfl, ?_⟩) ?_ ?_
                  rotate_left
                  · intro w'
                    go_simp
                    with_reducible rfl
                  rotate_left
                  · simp only [Act.put, List.setIfInBounds_toArray, List.set_cons_zero, List.set_cons_succ, i64_w, i32_w]
                    rfl
                  refine last_ (i := 16) (N := some 117) #[true, true, true, true, true, true, true, true, true, true, true, true, true, true, true, true, true, false, false] rfl rfl (by kernel_rfl) (by decide) (fun K hK => ?_)
                  refine value_ (w1 := ?_) (v := ?_) (by rfl) rfl ?_ ?_
                  rotate_left 2
                  · go_simp
                    constructor
                    · rfl
                    · rfl
                  have BXl := blk_new V (.cells #[.int .i64 (e : Int), .int .i64 (f : Int), .int .i64 (wrap64 (Int.tdiv x r0)), .int .i64 (f : Int), .int .i64 (e : Int), .int .i64 (wrap64 (-(upR x r1)))] 27)
                  have Tl := T.below (below_alloc (Below.refl _ V) (.cells #[.int .i64 (e : Int), .int .i64 (f : Int), .int .i64 (wrap64 (Int.tdiv x r0)), .int .i64 (f : Int), .int .i64 (e : Int), .int .i64 (wrap64 (-(upR x r1)))] 27))
                  refine hK.out _ _ ?_
                  clear hK K
                  refine norm_ (a' := ?_) ?_ ?_
                  rotate_left
                  · show Act.put _ (some 117) _ = _
                    simp only [Act.put, List.setIfInBounds_toArray, List.set_cons_zero, List.set_cons_succ, i64_w, i32_w]
                    rfl
                  refine last_ (i := 17) (N := some 118) #[true, true, true, true, true, true, true, true, true, true, true, true, true, true, true, true, true, true, false] rfl rfl (by kernel_rfl) (by decide) (fun K hK => ?_)
                  refine out_append_step (w := w) (by rfl) (.tmp 101) (.tmp 117) rfl u3 _ bs [(⟨(e : Int), (f : Int), wrap64 (Int.tdiv x r0)⟩ : S27), (⟨(f : Int), (e : Int), wrap64 (-(upR x r1))⟩ : S27)] rfl rfl Tl.out (litC2 (p := (⟨(e : Int), (f : Int), wrap64 (Int.tdiv x r0)⟩ : S27)) (q := (⟨(f : Int), (e : Int), wrap64 (-(upR x r1))⟩ : S27)) BXl) (by have := HLb.out; simp; omega) ?_
                  intro v5 V5 T5 g5
                  have T5' := Tl.append T5 g5
                  refine hK.out _ _ ?_
                  clear hK K
                  refine norm_ (a' := ?_) ?_ ?_
                  rotate_left
                  · show Act.put _ (some 118) _ = _
                    simp only [Act.put, List.setIfInBounds_toArray, List.set_cons_zero, List.set_cons_succ, i64_w, i32_w]
                    rfl
                  refine pure_ (i := 18) (N := some 3) (v := ?_) (a' := ?_) #[true, true, true, true, true, true, true, true, true, true, true, true, true, true, true, true, true, true, true] rfl rfl (by kernel_rfl) (fun _ _ _ h => h) (Or.inl ⟨by rfl, ?_⟩) ?_ ?_
                  rotate_left
                  · intro w'
                    go_simp
                    with_reducible rfl
                  rotate_left
                  · simp only [Act.put, List.setIfInBounds_toArray, List.set_cons_zero, List.set_cons_succ, i64_w, i32_w]
                    rfl
                  refine done_ (by kernel_rfl) ?_
                  go_wp2_with fail
                  go_roundw
                  case rel => exact ⟨f + 1, by go_num, by omega, by omega, ⟨by rw [HW.out, HPO.out, HPAIR.out, ← List.append_assoc, ← HBE.out]; exact T5'⟩⟩
                  case measure => simp [intOf]; omega
              · have hfrb : ((rd fs (e : Int)) != (rd fs (f : Int))) = true := by simpa using hfr
                have hpo : pairOne R E fs ts e f = [] := by unfold pairOne; rw [if_neg hfr]
                have HPO := Aside0.mk hpo
                clear hfr hpo
                go_wp2_with fail
                go_quiet (fail)
                go_wp2_with fail
                go_roundw
                case rel => exact ⟨f + 1, by go_num, by omega, by omega, ⟨by rw [HW.out, HPO.out, List.append_nil]; exact HT.out.below (pw_below_drewN (Below.refl _ _) _)⟩⟩
                case measure => simp [intOf]; omega
            · have hfltb : decide ((f : Int) < (E.length : Int)) = false := by simpa using hflt
              have hfe : f = E.length := by omega
              have HFE := Aside0.mk hfe
              clear hfe
              go_wp2_with fail
              go_roundw
              case rel => exact ⟨e + 1, by go_num, by omega, ⟨by rw [prAll_succ, ← List.append_assoc]; have := HT.out; rw [HFE.out] at this; exact this⟩⟩
              case measure => simp [intOf]; omega
        · have heltb : decide ((e : Int) < (E.length : Int)) = false := by simpa using helt
          have hee : e = E.length := by omega
          have HEE := Aside0.mk hee
          clear hee
          go_wp2_with fail
          go_loopw [3, 14] (fun v3 v wr => ∃ k : Nat, v = .int .i64 k ∧ 1 ≤ k ∧ k ≤ E.length ∧ Aside0 (Out w wr v3 (bs0 ++ prAll R E fs ts E.length ++ lastBs (k - 1)))) (fun _ v _ => E.length - (intOf v).toNat)
          case atStart => exact ⟨1, rfl, by omega, by omega, ⟨by have := HT.out.out; rw [HEE.out] at this; simpa [lastBs] using this⟩⟩
          case round =>
            clear HT HEE
            obtain ⟨k, rfl, hk0, hk1, HT⟩ := hrel
            have pw1 := PWA.out _ HT.out.2
            by_cases hklt : k < E.length
            · have hkltb : decide ((k : Int) < (E.length : Int)) = true := by simpa using hklt
              have hsub : k = (k - 1) + 1 := by omega
              have HW := Aside0.mk (show lastBs (k + 1 - 1) = lastBs (k - 1) ++ [⟨(k : Int), 0, 0⟩] from by have := lastBs_succ (k - 1); rw [← hsub] at this; simpa using this)
              have HLb : Aside0 ((bs0 ++ prAll R E fs ts E.length ++ lastBs (k - 1)).length ≤ 30000) := ⟨by
                have h1 := HL0.out
                have h2 := prAll_len R E fs ts E.length hE
                have h3 := lastBs_len (k - 1)
                simp only [List.length_append]
                omega⟩
              clear hsub
              go_wp2_with (at_builtin; refine out_append1 rfl _ _ rfl _ _ (⟨(k : Int), 0, 0⟩ : S27) rfl (by first | (go_simp; done) | (go_simp; rfl)) HT.out (by have := HLb.out; omega) ?_; intro v5 w5 hT5 hg5; have HO5 := Aside0.mk hT5; clear hT5 hg5)
              go_roundw
              case rel => exact ⟨k + 1, by go_num, by omega, by omega, ⟨by rw [HW.out, ← List.append_assoc]; exact HO5.out⟩⟩
              case measure => simp [intOf]; omega
            · have hkltb : decide ((k : Int) < (E.length : Int)) = false := by simpa using hklt
              have hke : k = E.length := by omega
              have HKE := Aside0.mk hke
              clear hke
              go_wp2_with fail
              go_ret
              refine ⟨_, rfl, ?_⟩
              have := HT.out
              rw [HKE.out, ← HG.out] at this
              exact this
end Go.Proofs.Ytlfopemghafboaa.D
