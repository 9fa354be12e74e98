/- Ranges over functions, and the function that recovers, at this program. Conditions: none beyond the hypotheses of each theorem. -/
import Derived.Test.YtdjgjnahfekdhaaGreatDoorA5
import Derived.Laws.AppendOwn
import Derived.Below
import Derived.Test.YtdjgjnahfekdhaaGreatDoorB1
import Derived.Test.YtdjgjnahfekdhaaGreatDoorA3
import Derived.Maps.Keyed
import Derived.DeepKeys4
import Derived.OpenShut
import Derived.KernelRfl
import Derived.Test.YtdjgjnahfekdhaaGreatDoorProg
import Derived.WalkKit
import Derived.OwnWalkIn
import Derived.TacticsInMore
import Derived.RowKit
import Derived.Tactics
import Derived.Tactics2
import Derived.Defers
import Derived.Recover
import Derived.Laws.Pointers
import Derived.WalkLawsBesides
set_option linter.unusedSectionVars false
set_option linter.unusedVariables false
set_option linter.unusedSimpArgs false
namespace Go.Av
open Go.RowKit
variable {c : Ctx} {H : Heap} {w : World} {P : Program}
theorem ret_more {g : FuncId} {vs : Array Value} {v : V} (h : RH c H w) (hc : Calls P g vs w fun e w' => (∃ x, (∀ w2, RV c H w2 v x) ∧ e = .returned x) ∧ (∀ b : Nat, b < w.heap.size → w'.heap[b]? = w.heap[b]?) ∧ w.heap.size ≤ w'.heap.size ∧ Outs w w') :
    Calls P g vs w (Ret c H w v false H) := by
  refine hc.mono ?_
  rintro e w' ⟨⟨x, hx, rfl⟩, hold, hs, hio⟩
  obtain ⟨e1, h1⟩ := step_more (hio := hio) h hold hs
  exact .inr ⟨c, x, e1, h1, hx w', rfl⟩
theorem ret_same {g : FuncId} {vs : Array Value} {v : V} {x : Value} (h : RH c H w) (hx : ∀ w2, RV c H w2 v x) (hc : Calls P g vs w fun e w' => e = .returned x ∧ w' = w) : Calls P g vs w (Ret c H w v false H) :=
  ret_more h (hc.mono fun e w' hq => ⟨⟨x, hx, hq.1⟩, fun b _ => by rw [hq.2], by rw [hq.2]; exact Nat.le_refl _, by rw [hq.2]; exact ⟨rfl, rfl⟩⟩)
theorem ret_below {g : FuncId} {vs : Array Value} {v : V} {x : Value} (h : RH c H w) (hx : ∀ w2, RV c H w2 v x) (hc : Calls P g vs w fun e w' => e = .returned x ∧ Below w.heap.size w w') : Calls P g vs w (Ret c H w v false H) :=
  ret_more h (hc.mono fun e w' hq => ⟨⟨x, hx, hq.1⟩, hq.2.block, hq.2.size, hq.2.os, hq.2.output⟩)
theorem step_adopt (h : RH c H w) {w' : World} (hold : ∀ b : Nat, b < w.heap.size → w'.heap[b]? = w.heap[b]?) {g : Nat} (hg : w.heap.size ≤ g) {a : Array Value} {e : TypeId} (hgo : w'.heap[g]? = some (.cells a e (0, 0)))
    {k : Nat} (st : Bool) {cs : List V} (hk : 0 < k) (hl : cs.length ≤ a.size) (hcs : RVs c H w cs (a.toList.take cs.length)) (hio : Outs w w' := by exact ⟨rfl, rfl⟩) :
    ∃ c', c'.ρ H.length = g ∧ Evo c c' H (H ++ [.arr k st 0 cs]) w w' ∧ RH c' (H ++ [.arr k st 0 cs]) w' := by
  have hgl : g < w'.heap.size := (Array.getElem?_eq_some_iff.1 hgo).1
  let w0 : World := { w' with heap := w'.heap.extract 0 g }
  let w1 : World := { w' with heap := w0.heap.push (.cells a e (0, 0)) }
  have hs0 : w0.heap.size = g := by simp only [w0, Array.size_extract]; omega
  have h0 : ∀ b : Nat, b < g → w0.heap[b]? = w'.heap[b]? := fun b hb => by
    simp only [w0, Array.getElem?_extract]
    rw [if_pos (by omega)]
    simp
  obtain ⟨e1, r1⟩ := step_more (hio := hio) (w' := w0) h (fun b hb => (h0 b (by omega)).trans (hold b hb)) (by omega)
  obtain ⟨c', hc, e2, r2⟩ := step_new (w' := w1) r1 rfl (.arr k st 0 cs) (.inr (.inl ⟨k, st, cs, a, e, rfl, rfl, hk, hl, e1.rvs _ _ hcs⟩))
  have hs1 : w1.heap.size = g + 1 := by simp only [w1, Array.size_push, hs0]
  obtain ⟨e3, r3⟩ := step_more (w' := w') r2 (fun b hb => by
    rw [hs1] at hb
    show _ = (w0.heap.push _)[b]?
    rw [Array.getElem?_push, hs0]
    split
    · rename_i hx; rw [hx]; exact hgo
    · exact (h0 b (by omega)).symm) (by omega)
  exact ⟨c', by rw [hc, hs0], e1.trans (e2.trans e3), r3⟩
theorem ret_row {f : FuncId} {vs : Array Value} {k n : Nat} {cs : List V} {xs : List Value} {el : TypeId} (st : Bool) (h : RH c H w) (hk : 0 < k) (hl : cs.length = n * k) (hcs : RVs c H w cs xs)
    (hc : Calls P f vs w fun e w' => ∃ v', e = .returned v' ∧ w'.ownsRow w.heap.size el k v' n xs ∧ v' ≠ .slice none 0 0 ∧ Below w.heap.size w w') :
    Calls P f vs w (Ret c H w (.own H.length 0 n n) false (H ++ [.arr k st 0 cs])) := by
  refine hc.mono ?_
  rintro e w' ⟨v', rfl, ⟨hxl, hrow⟩, hne, hb⟩
  rcases hrow with ⟨h1, _⟩ | ⟨g, cap, cur, rfl, hg, hcell, hn, hm, hsz, htake⟩
  · exact absurd h1 hne
  obtain ⟨c', hρ, e1, r1⟩ := step_adopt (hio := ⟨hb.os, hb.output⟩) h hb.block hg hcell (k := k) st (cs := cs) hk (by rw [hl, hsz]; exact Nat.mul_le_mul_right k hn) (by rw [hl, htake]; exact hcs)
  refine .inr ⟨c', _, e1, r1, ?_, rfl⟩
  simp only [RV]
  refine ⟨⟨_, cap, rfl, hn⟩, k, st, 0, cs, by simp, by omega, fun _ => ⟨g, 0, cap, rfl, hn, by omega, ⟨.inl ⟨hρ.symm, by simp⟩, fun _ => ⟨hρ.symm, by simp⟩⟩, fun _ => ?_⟩⟩
  rw [hρ, room_at hcell, hsz, Nat.zero_add]
end Go.Av
namespace Go.Av
open Go.Proofs Go.Maps
theorem wf_of_wrap {q : IntKind} {n : Int} (h : q.wrap n = n) : (Lit.int q n).wf = true := by
  have := wf_wrap q n
  rw [h] at this
  exact this
theorem keyed3 : Keyed Tryz.prog 3 := int_keyed Tryz.underlying3
theorem keyed9 : Keyed Tryz.prog 9 := string_keyed Tryz.underlying9
theorem keyed252 : Keyed Tryz.prog 252 := Keyed.of_law (deep_law_laid (m := 5) (by kernel_rfl) (by decide) (by rw [show Tryz.prog.types.size = 347 from by kernel_rfl]; decide) (by kernel_rfl) (by rw [Tryz.underlying252]))
theorem cell_int {v : V} (h : keyCell tiTree.get 3 v = true) : ∃ n, v = .int .i64 n ∧ (Lit.int .i64 n).wf = true := by
  unfold keyCell at h
  rw [show (tiTree.get 3).map (fun (i : TI) => i.d) = some (.int .i64) from rfl] at h
  split at h
  · rename_i q q' n e1
    cases e1
    simp only [Bool.and_eq_true, decide_eq_true_eq] at h
    obtain ⟨rfl, h2⟩ := h
    exact ⟨n, rfl, wf_of_wrap h2⟩
  · rename_i e; cases e
  · rename_i e; cases e
  · cases h
theorem cell_str {v : V} (h : keyCell tiTree.get 9 v = true) : ∃ s : ByteArray, v = .str s ∧ s.size ≤ maxLen := by
  unfold keyCell at h
  rw [show (tiTree.get 9).map (fun (i : TI) => i.d) = some .str from rfl] at h
  split at h
  · rename_i e; cases e
  · rename_i s _
    simp only [decide_eq_true_eq] at h
    exact ⟨s, rfl, Nat.le_trans h (by unfold maxLen; decide)⟩
  · rename_i e; cases e
  · cases h
theorem keys_ok : KeysOk Tryz.prog cfg := by
  intro t k hk
  simp only [cfg, Bool.and_eq_true, Bool.or_eq_true, Nat.beq_eq] at hk
  obtain ⟨ht, hk⟩ := hk
  rcases ht with (rfl | rfl) | rfl
  · unfold keyedOf at hk
    rw [show (tiTree.get 3).map (fun (i : TI) => i.d) = some (.int .i64) from rfl] at hk
    have hc : keyCell tiTree.get 3 k = true := by
      split at hk
      · rename_i e; cases e
      · exact hk
    obtain ⟨n, rfl, hw⟩ := cell_int hc
    refine ⟨keyed3, fun c H w x hx => ?_⟩
    simp only [RV] at hx
    subst hx
    exact ⟨_, keyOf_int_mk Tryz.underlying3 hw⟩
  · unfold keyedOf at hk
    rw [show (tiTree.get 9).map (fun (i : TI) => i.d) = some .str from rfl] at hk
    have hc : keyCell tiTree.get 9 k = true := by
      split at hk
      · rename_i e; cases e
      · exact hk
    obtain ⟨s, rfl, hw⟩ := cell_str hc
    refine ⟨keyed9, fun c H w x hx => ?_⟩
    simp only [RV] at hx
    subst hx
    exact ⟨_, WideMaps.keyOf_string_mk Tryz.underlying9 hw⟩
  · unfold keyedOf at hk
    rw [show (tiTree.get 252).map (fun (i : TI) => i.d) = some (.struct [(0, 9), (1, 9), (2, 3)]) from rfl] at hk
    split at hk
    · rename_i fs cs e
      cases e
      simp only [Bool.and_eq_true, decide_eq_true_eq] at hk
      obtain ⟨hl, hk⟩ := hk
      obtain ⟨x, y, z, rfl⟩ : ∃ x y z, cs = [x, y, z] := by
        match cs, hl with
        | [x, y, z], _ => exact ⟨x, y, z, rfl⟩
      simp only [List.zip_cons_cons, List.zip_nil_right, List.all_cons, List.all_nil, Bool.and_true, Bool.and_eq_true] at hk
      obtain ⟨s, rfl, h1⟩ := cell_str hk.1
      obtain ⟨u, rfl, h2⟩ := cell_str hk.2.1
      obtain ⟨n, rfl, h3⟩ := cell_int hk.2.2
      refine ⟨keyed252, fun c H w x hx => ?_⟩
      simp only [RV, RVs] at hx
      obtain ⟨a, rfl, y1, ys1, e1, rfl, y2, ys2, rfl, rfl, y3, ys3, rfl, rfl, rfl⟩ := hx
      have ha : a = #[.string s, .string u, .int .i64 n] := by apply Array.ext'; simpa using e1
      subst ha
      have c252 : Tryz.prog.cellsOf 252 = 3 := by kernel_rfl
      have c9 : Tryz.prog.cellsOf 9 = 1 := by kernel_rfl
      have c3 : Tryz.prog.cellsOf 3 = 1 := by kernel_rfl
      have kt : Tryz.prog.keyType 252 = true := by kernel_rfl
      have hsz : Tryz.prog.types.size = 346 + 1 := by kernel_rfl
      refine ⟨.string (keyBytes [.string s.data.toList, .string u.data.toList, .int .i64 n]), ?_⟩
      have hd : ∀ d, Tryz.prog.keyLits (d + 2) 252 [.string s, .string u, .int .i64 n] = some [.string s.data.toList, .string u.data.toList, .int .i64 n] := fun d => by
        rw [Program.keyLits.eq_def]
        simp only [Tryz.underlying252, c252]
        simp [Program.keyLits.eq_def Tryz.prog (d + 1), Tryz.underlying9, Tryz.underlying3, c9, c3, h1, h2, h3]
      unfold keyOf
      simp only [Tryz.underlying252, kt, Value.formed, c252, hsz]
      refine (if_pos rfl).trans ?_
      have h346 := hd 346
      exact (congrArg _ h346).trans rfl
    · unfold keyCell at hk
      rw [show (tiTree.get 252).map (fun (i : TI) => i.d) = some (.struct [(0, 9), (1, 9), (2, 3)]) from rfl] at hk
      split at hk
      · rename_i e _; cases e
      · rename_i e _; cases e
      · rename_i e _; cases e
      · cases hk
end Go.Av
namespace Go.Av
open Go.Proofs
open Go.RowKit
set_option maxRecDepth 100000 in
set_option maxHeartbeats 2000000 in
theorem marked_calls (l : Nat) (bp : Addr) (a : Option Addr) (cap : Nat) (bs : List Bool) (W0 : World) (J : Nat → World → Prop) (R : Ending → World → Prop) (b o : Nat) (ha : bs.length = 0 ∨ a = some ⟨b, o, none⟩)
    (hc : W0.cell? bp = some (.slice a bs.length cap)) (hout : World → True) (h0 : J 0 W0) (hend : ∀ W, J bs.length W → R (.returned (.tuple #[])) W)
    (hcell : ∀ i W x, J i W → bs[i]? = some x → W.cell? ⟨b, o + i, none⟩ = some (.bool x)) (hskip : ∀ i W, J i W → bs[i]? = some false → J (i + 1) W)
    (hround : ∀ i W, J i W → bs[i]? = some true → ∃ f tmps asg body, (Instr.yield l #[.int .i64 i]).run Tryz.prog W = .ok (.round l f tmps asg body) W ∧
      RoundIn Fence.wide 4 Tryz.prog l f tmps asg body W fun e W' => False ∨ (e = .returned (.bool true) ∧ J (i + 1) W') ∨ (e = .returned (.bool false) ∧ R (.returned (.tuple #[])) W'))
    (hbig : bs.length < 4611686018427387904) :
    CallsIn Fence.wide 5 Tryz.prog 165 #[.func (.yield l) #[] #[], .pointer (some bp)] W0 R := by
  refine callsIn_of_wp Tryz.func165 rfl trivial ?_
  simp only [Tryz.ntmps165, List.size_toArray, List.length_cons, List.length_nil, Nat.reduceAdd, Nat.reduceSub, Array.replicate_succ, Array.replicate_zero, List.push_toArray, List.append_toArray, List.nil_append, List.cons_append]
  gi_wp2
  generalize hL : Code.seq _ _ = body
  refine wpIn_loop_rounds (bs.length + 1) ?_
  suffices key : ∀ (k i : Nat) (W : World) (t3 t4 t8 t9 t10 t11 t12 t13 t14 t15 t16 t17 t18 t19 : Value), k = bs.length - i → i ≤ bs.length → J i W →
      Code.roundsIn Fence.wide 5 Tryz.prog body (Exit.inBlock 0 (bodyPost Tryz.prog Tryz.f165 R)) (k + 1)
        { tmps := #[.func (.yield l) #[] #[], .pointer (some bp), undef, t3, t4, .slice a bs.length cap, .int .i64 bs.length, .int .i64 i, t8, t9, t10, t11, t12, t13, t14, t15, t16, t17, t18, t19], defers := [] } W from
    key bs.length 0 W0 _ _ _ _ _ _ _ _ _ _ _ _ _ _ (by omega) (Nat.zero_le _) h0
  intro k
  induction k with
  | zero =>
    intro i W t3 t4 t8 t9 t10 t11 t12 t13 t14 t15 t16 t17 t18 t19 hk hi hJ
    have hd : decide ((i : Int) < (bs.length : Int)) = false := by simp; omega
    rw [roundsIn_succ, ← hL]
    have hJ' : J bs.length W := by rwa [show bs.length = i by omega]
    generalize hn : bs.length = n at *
    gi_wp2
    exact ⟨rfl, _, results_none rfl _ _ _, hend _ hJ'⟩
  | succ k ih =>
    intro i W t3 t4 t8 t9 t10 t11 t12 t13 t14 t15 t16 t17 t18 t19 hk hi hJ
    have hlt : i < bs.length := by omega
    obtain rfl : a = some ⟨b, o, none⟩ := ha.resolve_left (by omega)
    have hd : decide ((i : Int) < (bs.length : Int)) = true := by simp; omega
    have hw : wrap64 ((i : Int) + 1) = ((i + 1 : Nat) : Int) := by
      unfold wrap64; omega
    rw [roundsIn_succ, ← hL]
    cases hb : bs[i]? with
    | none => rw [List.getElem?_eq_none_iff] at hb; omega
    | some x =>
      have hcx := hcell i W x hJ hb
      cases x with
      | false =>
        have hs := hskip i W hJ hb
        have hg := ih (i + 1) W
        clear ih hcell hskip hround hend hJ h0 hb
        generalize hn : bs.length = n at *
        gi_wp2
        refine ⟨fun _ h => (by cases h), ?_⟩
        gi_wp2
        rw [hL]
        exact hg _ _ _ _ _ _ _ _ _ _ _ _ _ _ (by omega) (by omega) hs
      | true =>
        obtain ⟨f, tmps, asg, bdy, hy, hR⟩ := hround i W hJ hb
        have hg := ih (i + 1)
        clear ih hcell hskip hround hend hJ h0 hb
        generalize hn : bs.length = n at *
        gi_wp2
        refine hR.mono ?_
        rintro e W3 (hf | ⟨rfl, hJ3⟩ | ⟨rfl, hR3⟩)
        · exact hf.elim
        · gi_wp2
          rw [hL]
          exact hg W3 _ _ _ _ _ _ _ _ _ _ _ _ _ _ (by omega) (by omega) hJ3
        · gi_wp2
          exact ⟨rfl, _, results_none rfl _ _ _, hR3⟩
end Go.Av
namespace Go.Av
open Go.Proofs
variable {c c2 c3 : Ctx} {H H2 H3 : Heap} {w W W3 : World}
theorem marks_kept {P : Program} {rec : Rec} (hrec : ∀ code σ ex σ', rec code σ = some (ex, σ') → CodeOk P code σ ex σ') {p : Nat} {asg b : Code} {tm : List V} : ∀ (cs : List V) (i : Nat) (σ : St) (ex : Ex) (σ' : St),
    marks rec p asg b tm cs i σ = some (ex, σ') → Kept σ σ'
  | [], _, σ, ex, σ', hx => by
    simp only [marks, Option.some.injEq, Prod.mk.injEq] at hx
    obtain ⟨_, rfl⟩ := hx
    exact ⟨Nat.le_refl _, fun _ _ _ => rfl, fun _ h => h⟩
  | v :: cs, i, σ, ex, σ', hx => by
    cases v <;> first | (simp only [marks] at hx; cases hx; done) | skip
    rename_i v
    cases v with
    | false => simp only [marks] at hx; exact marks_kept hrec _ _ _ _ _ hx
    | true =>
      simp only [marks] at hx
      cases h1 : rec asg { σ with tm := tm.set p (.int .i64 i) } with
      | none => rw [h1] at hx; cases hx
      | some q =>
        rw [h1] at hx
        obtain ⟨e, σ1⟩ := q
        cases e <;> first | (cases hx; done) | skip
        simp only at hx
        have k1 := (hrec _ _ _ _ h1).1
        have k1' : Kept σ σ1 := ⟨k1.len, k1.same, k1.more⟩
        cases h2 : rec b σ1 with
        | none => rw [h2] at hx; cases hx
        | some q2 =>
          rw [h2] at hx
          obtain ⟨e2, σ2⟩ := q2
          have k2 := k1'.trans (hrec _ _ _ _ h2).1
          cases e2 <;> simp only at hx <;> first | (cases hx; done) | skip
          · exact k2.trans (marks_kept hrec _ _ _ _ _ hx)
          · simp only [Option.some.injEq, Prod.mk.injEq] at hx
            obtain ⟨_, rfl⟩ := hx
            exact ⟨k2.len, k2.same, k2.more⟩
          · simp only [Option.some.injEq, Prod.mk.injEq] at hx
            obtain ⟨_, rfl⟩ := hx
            exact ⟨k2.len, k2.same, k2.more⟩
structure Jv (c : Ctx) (H : Heap) (w : World) (c2 : Ctx) (H2 : Heap) (W : World) (r : Loop) : Prop where
  evo : Evo c c2 H H2 w W
  rh : RH c2 H2 W
  rcd : W.heap[w.heap.size + 1]? = some (.loop r)
  mrk : W.heap[w.heap.size]? = some (.deferred (some []))
  nl : ∀ t o, H2[t]? = some o → o ≠ .hole → c2.ρ t ≠ w.heap.size + 1
  nm : ∀ t o, H2[t]? = some o → o ≠ .hole → c2.ρ t ≠ w.heap.size
theorem Jv.step {r : Loop} (h : Jv c H w c2 H2 W r) (he : Evo c2 c3 H2 H3 W W3) (hh : RH c3 H3 W3) : Jv c H w c3 H3 W3 r :=
  ⟨h.evo.trans he, hh, by rw [he.rest _ (lt_of_heap h.rcd) h.nl]; exact h.rcd, by rw [he.rest _ (lt_of_heap h.mrk) h.nm]; exact h.mrk, he.apart (lt_of_heap h.rcd) h.nl, he.apart (lt_of_heap h.mrk) h.nm⟩
theorem Jv.side {r : Loop} (h : Jv c H w c2 H2 W r) (r' : Loop) : Side W (W.putObj (w.heap.size + 1) (.loop r')) := side_put (by rw [h.rcd]; exact trivial) trivial
theorem Jv.put {r : Loop} (h0 : RH c H w) (h : Jv c H w c2 H2 W r) (r' : Loop) : Jv c H w c2 H2 (W.putObj (w.heap.size + 1) (.loop r')) r' :=
  ⟨h.evo.side (h.side r') h0 fun b hb => World.putObj_heap_other (by omega), (h.side r').rh h.rh, World.putObj_heap_same (lt_of_heap h.rcd), by rw [World.putObj_heap_other (by omega)]; exact h.mrk, h.nl, h.nm⟩
theorem range_ok : RangeOk Tryz.prog cfg := by
  intro rec hrec f p asg b t lv n full cs σ ex σ' hna hnb hob hst hlen hf hm
  refine ⟨marks_kept hrec _ _ _ _ _ hm, 0, fun ro hro c w a lo h ht hd => ?_⟩
  have hro : ro = none := by
    rcases hro with hro | hro
    · exact hro
    · simp [noRange] at hro
  subst hro
  show Code.wpIn Fence.wide 0 Tryz.prog _ _ a w
  -- the function's value
  have hfv := ov_rv ht hf
  simp only [RV] at hfv
  obtain ⟨cv, hf1, hf2⟩ := hfv
  simp only [RVs, RV] at hf2
  obtain ⟨y, ys, hcv, ⟨⟨box, _⟩, rfl⟩, rfl⟩ := hf2
  have hcv' : cv = #[.pointer (some ⟨c.ρ t, 0, none⟩)] := by apply Array.ext'; simpa using hcv
  subst hcv'
  -- the slice
  have hob' := h.ob t _ hob
  simp only [RO] at hob'
  obtain ⟨q1, q2, q3, ba, be, q4, q5⟩ := hob'
  have hba : ∃ sv, ba = #[sv] ∧ RV c σ.H w lv sv := by
    simp only [RVs] at q5
    obtain ⟨y, ys, g1, g2, g3⟩ := q5
    refine ⟨y, ?_, g2⟩
    apply Array.ext'
    rw [g1, g3]
  obtain ⟨sv, rfl, hsv⟩ := hba
  have hslice : RV c σ.H w (.sl n full cs) sv := strip_rv h (c' := c) (H' := σ.H) (n0 := 0) (all := true) ⟨fun t ht => by simp at ht, fun b o hx => hx, fun t ht => by simp at ht⟩
    (fun t k st me cs hob hs _ o ho => by
      obtain ⟨r1, r2, r3, _⟩ := RO.arr h hob
      exact .inr ((r3 _).2 ⟨hs rfl, ho⟩)) sf lv _ sv hst hsv
  simp only [RV] at hslice
  obtain ⟨sa, cap, rfl, hcap, _, hnil, hat⟩ := hslice
  have hcell : w.cell? ⟨c.ρ t, 0, none⟩ = some (.slice sa n cap) := by simp [World.cell?, q4]
  -- the record is laid
  let r0 : FuncId → Loop := fun fn => { state := .ready, pending := none, fn, tmps := a.tmps, params := #[p], assign := asg, body := b, defers := w.heap.size }
  refine wpIn_rangeFunc fun fn _ => ⟨w.heap.size + 1, [{ target := .collected w.heap.size, args := #[] }], (w.alloc (.deferred (some []))).alloc (.loop (r0 fn)),
    { target := .fn (.func 165) #[.pointer (some ⟨c.ρ t, 0, none⟩)], args := #[.func (.yield (w.heap.size + 1)) #[] #[]] }, (w.alloc (.deferred (some []))).alloc (.loop (r0 fn)),
    165, #[.func (.yield (w.heap.size + 1)) #[] #[], .pointer (some ⟨c.ρ t, 0, none⟩)], (w.alloc (.deferred (some []))).alloc (.loop (r0 fn)), run_enterLoop_outer _ _ _ _ _, ?_, fun _ _ => trivial, ?_, fun hx => by simp [Fence.wide] at hx, ?_⟩
  · have hf1' : a.eval f = .func (.func 165) #[] #[.pointer (some ⟨c.ρ t, 0, none⟩)] := hf1
    simp only [resolve, hf1', Deferred.ofValue]
    simp [Act.eval]
  · simp only [invoke]
    exact run_callFunc Tryz.func165 rfl rfl _
  -- the marks
  let bs : List Bool := cs.map fun | .bool x => x | _ => false
  have hbl : bs.length = n := by rw [List.length_map]; exact hlen.1
  let w1 := (w.alloc (.deferred (some []))).alloc (.loop (r0 fn))
  have hsz1 : w1.heap.size = w.heap.size + 2 := by simp [w1]
  have hold1 : ∀ b : Nat, b < w.heap.size → w1.heap[b]? = w.heap[b]? := fun b hb => by
    simp only [w1, World.alloc, Array.getElem?_push, Array.size_push]
    rw [if_neg (by omega), if_neg (by omega)]
  obtain ⟨e1, h1⟩ := step_away h hold1 (by omega)
  have hrec1 : w1.heap[w.heap.size + 1]? = some (.loop (r0 fn)) := by
    have := World.alloc_heap_new (w.alloc (.deferred (some []))) (.loop (r0 fn))
    rwa [World.size_alloc] at this
  have hmrk1 : w1.heap[w.heap.size]? = some (.deferred (some [])) := by
    simp only [w1, World.alloc, Array.getElem?_push, Array.size_push]
    rw [if_neg (by omega)]; simp
  have J0 : Jv c σ.H w _ σ.H w1 (r0 fn) := ⟨e1, h1, hrec1, hmrk1, fun t o ht ho e => by have := ((h.ob t o ht).low ho).2; have e' : c.ρ t = w.heap.size + 1 := e; omega, fun t o ht ho e => by have := ((h.ob t o ht).low ho).2; have e' : c.ρ t = w.heap.size := e; omega⟩
  -- how it ends
  have done : ∀ (c2 : Ctx) (σ2 : St) (W : World) (r : Loop) (jc : Option Code) (e2 : Ex) (ex2 : Exit), Jv c σ.H w c2 σ2.H W r → r.state ≠ .busy → r.pending = jc → ex = e2 → σ' = { σ2 with tm := σ.tm } →
      (jc = none ∧ e2 = .normal ∨ jc = some .ret ∧ e2 = .ret ∨ ∃ id, jc = some (.exit id) ∧ e2 = .exit id) →
      rangePost Fence.wide 0 Tryz.prog (w.heap.size + 1) (Post none lo c σ.H w ex σ') { a with defers := [{ target := .collected w.heap.size, args := #[] }] ++ a.defers } (.returned (.tuple #[])) W := by
    intro c2 σ2 W r jc e2 ex2 hj hb hp hex hσ hc
    refine ⟨jc, _, by rw [← hp]; exact run_endLoop hj.rcd hb, ?_⟩
    have hj' := hj.put h { r with state := .exhausted }
    have hdfr : Dfr none lo c2 σ2.H (W.putObj (w.heap.size + 1) (.loop { r with state := .exhausted })) ([{ target := .collected w.heap.size, args := #[] }] ++ a.defers) := by
      obtain ⟨_, rs, g1, g2, g3⟩ := Dfr.evo hj'.evo hd.1
      obtain ⟨_, rs0, k1, k2, k3⟩ := hd.1
      have hrs : rs = rs0 := by
        have := congrArg (List.map fun (d : Deferred) => match d.target with | .collected r => r | _ => 0) (g1.symm.trans k1)
        simpa [List.map_map, Function.comp_def] using this
      subst hrs
      refine ⟨fun hx => absurd rfl hx, w.heap.size :: rs, by rw [g1]; rfl, List.nodup_cons.2 ⟨fun hx => ?_, g2⟩, fun r hr => ?_⟩
      · have := lt_of_heap (k3 _ hx).2.1
        omega
      · rcases List.mem_cons.1 hr with rfl | hr
        · exact ⟨hd.2, hj'.mrk, hj'.nm⟩
        · exact g3 r hr
    have htm := hj'.evo.rvs _ _ ht
    clear hp
    subst hex hσ
    rcases hc with ⟨rfl, rfl⟩ | ⟨rfl, rfl⟩ | ⟨id, rfl, rfl⟩
    · exact .inr ⟨c2, hj'.evo, hj'.rh, hdfr, htm⟩
    · exact wpIn_ret (.inr ⟨c2, hj'.evo, hj'.rh, hdfr, htm⟩)
    · exact wpIn_exit (.inr ⟨c2, hj'.evo, hj'.rh, hdfr, rfl, htm⟩)
  refine callsIn_wide.2 (callsIn_wide.1 (marked_calls (w.heap.size + 1) ⟨c.ρ t, 0, none⟩ sa cap bs w1
    (fun i W => ∃ c2 σ2, Jv c σ.H w c2 σ2.H W (r0 fn) ∧ marks rec p asg b σ.tm (cs.drop i) i σ2 = some (ex, σ'))
    _ ((sa.map (·.block)).getD 0) ((sa.map (·.off)).getD 0) ?_ ?_ ?_ ?_ ?_ ?_ ?_ ?_ ?_))
  · cases sa with
    | none => exact .inl (by rw [hbl]; exact (hnil rfl).1)
    | some x =>
      obtain ⟨xb, xo, xs⟩ := x
      rcases Nat.eq_zero_or_pos bs.length with h0 | h0
      · exact .inl h0
      · have := (hat _ rfl).1 (by omega)
        simp only at this; subst this; exact .inr rfl
  · rw [hbl, ← hcell]; exact cell_congr (hold1 _ q2) 0
  · exact fun W => trivial
  · exact ⟨_, σ, J0, by simpa using hm⟩
  · rintro W ⟨c2, σ2, hj, hmk⟩
    rw [hbl, ← hlen.1, List.drop_length] at hmk
    simp only [marks, Option.some.injEq, Prod.mk.injEq] at hmk
    exact done c2 σ2 W _ none .normal .normal hj (by simp [r0]) rfl hmk.1.symm hmk.2.symm (.inl ⟨rfl, rfl⟩)
  · rintro i W x ⟨c2, σ2, hj, hmk⟩ hx
    have hi : i < cs.length := by have := (List.getElem?_eq_some_iff.1 hx).1; rwa [hbl, ← hlen.1] at this
    have hv : cs[i]? = some cs[i] := List.getElem?_eq_getElem hi
    cases sa with
    | none => have := (hnil rfl).2; rw [this] at hi; simp at hi
    | some y =>
      have h3 := hj.evo.rvat _ _ _ (hat y rfl).2
      obtain ⟨_, z, hz, hr⟩ := RVat_get h3 hv
      simp only [bs, List.getElem?_map, hv, Option.map_some, Option.some.injEq] at hx
      rw [List.drop_eq_getElem_cons hi] at hmk
      cases hb : cs[i] <;> rw [hb] at hmk hx hr <;> first | (simp only [marks] at hmk; cases hmk; done) | skip
      simp only [RV] at hr
      simp only at hx
      subst hx hr
      exact hz
  · rintro i W ⟨c2, σ2, hj, hmk⟩ hx
    have hi : i < cs.length := by have := (List.getElem?_eq_some_iff.1 hx).1; rwa [hbl, ← hlen.1] at this
    have hv : cs[i]? = some cs[i] := List.getElem?_eq_getElem hi
    simp only [bs, List.getElem?_map, hv, Option.map_some, Option.some.injEq] at hx
    rw [List.drop_eq_getElem_cons hi] at hmk
    cases hb : cs[i] <;> rw [hb] at hmk hx <;> first | (simp only [marks] at hmk; cases hmk; done) | skip
    simp only at hx
    subst hx
    simp only [marks] at hmk
    exact ⟨c2, σ2, hj, hmk⟩
  · rintro i W ⟨c2, σ2, hj, hmk⟩ hx
    have hi : i < cs.length := by have := (List.getElem?_eq_some_iff.1 hx).1; rwa [hbl, ← hlen.1] at this
    have hv : cs[i]? = some cs[i] := List.getElem?_eq_getElem hi
    simp only [bs, List.getElem?_map, hv, Option.map_some, Option.some.injEq] at hx
    rw [List.drop_eq_getElem_cons hi] at hmk
    cases hb : cs[i] <;> rw [hb] at hmk hx <;> first | (simp only [marks] at hmk; cases hmk; done) | skip
    simp only at hx
    subst hx
    simp only [marks] at hmk
    refine ⟨fn, a.tmps.setIfInBounds p (.int .i64 i), asg, b, by
      have hy := run_yield (P := Tryz.prog) (args := #[.int .i64 i]) hj.rcd rfl
      simpa [r0, Array.zip, Array.zipWith, Array.zipWithMAux] using hy, ?_⟩
    cases hq : rec asg { σ2 with tm := σ.tm.set p (.int .i64 i) } with
    | none => rw [hq] at hmk; cases hmk
    | some q =>
    rw [hq] at hmk
    obtain ⟨e1', σ3⟩ := q
    cases e1' <;> first | (cases hmk; done) | skip
    simp only at hmk
    cases hq2 : rec b σ3 with
    | none => rw [hq2] at hmk; cases hmk
    | some q2 =>
    rw [hq2] at hmk
    obtain ⟨e2, σ4⟩ := q2
    have htm : RVs c2 σ2.H W (σ.tm.set p (.int .i64 i)) (a.tmps.setIfInBounds p (.int .i64 i)).toList := by
      have := rvs_put (a := a) (hj.evo.rvs _ _ ht) (dst := some p) (v := .int .i64 i) (x := .int .i64 i) (by simp only [RV])
      exact this
    refine round_of_wp (wpIn_mono ((hrec _ _ _ _ hq).wp (ro := some (w.heap.size + 1)) (.inr hna) (lo := 0) (a := { tmps := a.tmps.setIfInBounds p (.int .i64 i), defers := [] }) hj.rh htm ⟨Dfr.nil _ _, Nat.zero_le _⟩) fun e a3 W3 hp => ?_)
    rcases hp with hf | ⟨c3, f1, f2, f3, f4⟩
    · exact hf.elim
    cases e <;> simp only [ExR] at f4
    have hj3 := hj.step f1 f2
    refine ⟨_, run_beginRound hj3.rcd rfl, ?_⟩
    have hj4 := hj3.put h { r0 fn with state := .busy }
    refine wpIn_mono ((hrec _ _ _ _ hq2).wp (ro := some (w.heap.size + 1)) (.inr hnb) (lo := 0) hj4.rh ((hj3.side _).rvs _ _ f4) ⟨by rw [f3.1 (by simp)]; exact Dfr.nil _ _, Nat.zero_le _⟩) fun e a5 W5 hp => ?_
    rcases hp with hf | ⟨c5, g1, g2, g3, g4⟩
    · exact hf.elim
    have hj5 := hj4.step g1 g2
    cases e2 <;> cases e <;> simp only [ExR] at g4 <;> simp only at hmk <;> first | (cases hmk; done) | skip
    · refine ⟨_, _, run_endRound _ hj5.rcd, .inr (.inl ⟨rfl, c5, σ4, hj5.put h _, ?_⟩)⟩
      exact hmk
    · simp only [Option.some.injEq, Prod.mk.injEq] at hmk
      obtain ⟨rfl, g4⟩ := g4
      refine ⟨_, _, run_endRound _ hj5.rcd, .inr (.inr ⟨rfl, ?_⟩)⟩
      exact done c5 σ4 _ _ (some (.exit _)) _ .normal (hj5.put h _) (by simp) rfl hmk.1.symm hmk.2.symm (.inr (.inr ⟨_, rfl, rfl⟩))
    · simp only [Option.some.injEq, Prod.mk.injEq] at hmk
      refine ⟨_, _, run_endRound _ hj5.rcd, .inr (.inr ⟨rfl, ?_⟩)⟩
      exact done c5 σ4 _ _ (some .ret) .ret .normal (hj5.put h _) (by simp) rfl hmk.1.symm hmk.2.symm (.inr (.inl ⟨rfl, rfl⟩))
  · rw [hbl]; have := hlen.2; simp only [roomy] at this; omega
end Go.Av
namespace Go.Av
open Go.Proofs
open Go.RowKit
set_option maxHeartbeats 1000000 in
theorem catch_idle (p : Addr) (w : World) :
    CallsD Tryz.prog 168 #[.pointer (some p)] .returning w fun e u' w' => e = .returned (.tuple #[]) ∧ u' = .returning ∧ w' = w := by
  refine callsD_of_wpS Tryz.func168 rfl fun c₀ cs hu => ?_
  apply wpS_seq
  apply wpS_region
  simp [wpOpsS, go_sem, recoverD, hu, Tryz.ntmps168, Exit.thenS]
  apply wpS_seq
  apply wpS_region
  simp [wpOpsS, go_sem, recoverD, hu, Tryz.ntmps168, Exit.thenS]
  refine wpS_cond (t := false) (by simp [Act.eval, Array.replicate]) ?_
  simp only [Bool.false_eq_true, if_false]
  refine wpS_of_wp (wp_skip ?_)
  cases c₀
  simp_all [bodyPostS, Go.results, Tryz.results168]
set_option maxRecDepth 100000 in
set_option maxHeartbeats 1000000 in
theorem catch_panicking (p : Addr) (x ev : Value) (older : List PanicEntry) (w : World) (n : Int) (hev : ev = .int .i64 n) (hc : w.cell? p = some x) (hz : w.frozen? p = false) (hx : x = .int .i64 0) :
    CallsD Tryz.prog 168 #[.pointer (some p)] (.panicking ({ v := .iface 209 (.agg #[ev]), recovered := false } :: older)) w fun e u' w' =>
      e = .returned (.tuple #[]) ∧ u' = .panicking ({ v := .iface 209 (.agg #[ev]), recovered := true } :: older) ∧ ∃ o, w' = (w.alloc o).setCell p ev := by
  subst hev hx
  have hta : ∀ w', (Instr.typeAssert (.iface 209 (.agg #[.int .i64 n])) 20 209 true).run Tryz.prog w' = .ok (.tuple #[.agg #[.int .i64 n], .bool true]) w' := fun w' => by
    simp [Instr.typeAssert, Sem.run_bind, Tryz.runUnderlying209, Result.andThen]
  have hpb : p.block < w.heap.size := by
    simp only [World.cell?] at hc
    split at hc
    · rename_i hb; exact (Array.getElem?_eq_some_iff.1 hb).1
    · cases hc
  have hsame : ∀ o, (w.alloc o).heap[p.block]? = w.heap[p.block]? := fun o => by
    simp only [World.alloc, Array.getElem?_push]; rw [if_neg (by omega)]
  have hc2 : (w.alloc (.cells #[.int .i64 n] 209)).cell? p = some (.int .i64 0) := by rw [← hc]; simp only [World.cell?, hsame]
  have hz2 : (w.alloc (.cells #[.int .i64 n] 209)).frozen? p = false := by rw [← hz]; simp only [World.frozen?, hsame]
  refine callsD_of_wpS Tryz.func168 rfl fun c₀ cs hu => ?_
  apply wpS_seq
  apply wpS_region
  simp [wpOpsS, go_sem, recoverD, hu, Tryz.ntmps168, Exit.thenS]
  apply wpS_seq
  apply wpS_region
  simp [wpOpsS, go_sem, recoverD, hu, Exit.thenS]
  refine wpS_cond (t := true) (by simp [Act.eval, Array.replicate]) ?_
  simp only [if_true]
  refine wpS_of_wp ?_
  simp only [Array.replicate_succ, Array.replicate_zero, List.push_toArray, List.append_toArray, List.nil_append, List.cons_append]
  go_wp2
  simp [bodyPostS, Go.results, Tryz.results168]
  exact ⟨_, rfl⟩
set_option maxRecDepth 100000 in
set_option maxHeartbeats 1000000 in
theorem outs_setCell (w : World) (a : Addr) (v : Value) : Outs w (w.setCell a v) := by
  unfold Outs World.setCell
  split <;> exact ⟨rfl, rfl⟩
theorem guard_ok : GuardOk Tryz.prog cfg := by
  intro ent hE g caps H r hr v hv c w f h hf
  simp only [RV] at hf
  obtain ⟨cv, rfl, hcv⟩ := hf
  obtain ⟨fn, cd, q1, q2, q3⟩ := hE.isF g caps H r hr
  have hcall : ∀ w, (callFunc g cv).run Tryz.prog w = .ok (.enter g cv) w := fun w => run_callFunc q1 q2 q3 cv
  have hmf : ∀ (fn : Fn) (first cap : Array Value) (w : World), (Instr.makeFunc fn first cap).run Tryz.prog w = .ok (.func fn first cap) w := fun _ _ _ _ => rfl
  have hold : ∀ b : Nat, b < w.heap.size → (w.alloc (.cells #[.int .i64 0] 25)).heap[b]? = w.heap[b]? := fun b hb => by
    simp only [World.alloc, Array.getElem?_push]; rw [if_neg (by omega)]
  obtain ⟨e1, h1⟩ := step_more h hold (by simp)
  have hsp := Spare.new h (Nat.le_refl w.heap.size)
  have hcon := (hE.ok g caps H r hr).2 c (w.alloc (.cells #[.int .i64 0] 25)) cv h1 (e1.rvs _ _ hcv)
  show Calls Tryz.prog 102 _ _ _
  go_enter_defers Tryz.func102, Tryz.ntmps102
  go_wp2
  refine hcon.mono ?_
  have hres : ∀ tmps (n : Int) (w4 : World), tmps[2]? = some (Value.pointer (some ⟨w.heap.size, 0, none⟩)) → w4.cell? ⟨w.heap.size, 0, none⟩ = some (.int .i64 n) → (Go.results Tryz.f102 tmps).run Tryz.prog w4 = .ok (.int .i64 n) w4 := by
    intro tmps n w4 ht hc
    simp [Go.results, Tryz.results102, ht, hc, go_sem]
  rintro e w2 (hf | ⟨c2, x, f1, f2, f3, rfl⟩)
  · exact hf.elim
  have hB : w2.heap[w.heap.size]? = some (.cells #[.int .i64 0] 25 (0, 0)) := by
    rw [f1.rest w.heap.size (by simp) hsp.1]; exact World.alloc_heap_new w _
  have hc2 : w2.cell? ⟨w.heap.size, 0, none⟩ = some (.int .i64 0) := by simp [World.cell?, hB]
  have hz2 : w2.frozen? ⟨w.heap.size, 0, none⟩ = false := by simp [World.frozen?, hB]
  have hsp2 : Spare c2 r.H w.heap.size := hsp.evo f1 (by simp)
  have fin : ∀ (w3 w4 : World) (n : Int), v = .int .i64 n → (∀ b : Nat, b < w2.heap.size → w3.heap[b]? = w2.heap[b]?) → w2.heap.size ≤ w3.heap.size → w4.heap.size = w3.heap.size → (∀ k : Nat, k ≠ w.heap.size → w4.heap[k]? = w3.heap[k]?) → Outs w2 w3 → Outs w3 w4 → Ret c H w v false r.H (.returned (.int .i64 n)) w4 := by
    intro w3 w4 n hvn g3 g4 g1 g2 g5 g6
    obtain ⟨e3, h3⟩ := step_more (hio := g5) f2 g3 g4
    have ha := aside_of (hio := g6) hsp2 g1 g2
    exact .inr ⟨c2, .int .i64 n, ((e1.trans f1).trans e3).aside ha h (fun b hb => g2 b (by omega)), ha.rh h3, by rw [hvn]; simp only [RV], rfl⟩
  cases hp : r.pan with
  | false =>
    rw [hp] at hv
    simp only [Bool.false_eq_true, if_false] at hv ⊢
    go_wp2
    refine leaves_cons (f := 168) (args := #[.pointer (some ⟨w.heap.size, 0, none⟩)]) (by simp) (by simp [go_sem]) ?_
    refine (catch_idle _ _).mono ?_
    rintro e u' w'' ⟨rfl, rfl, rfl⟩
    simp only [Leaves, settle]
    refine ⟨_, hres _ 0 _ rfl (World.cell?_setCell_same' _ _ _ (by rw [hc2]; rfl)), fin w2 _ 0 hv (fun _ _ => rfl) (Nat.le_refl _) (by simp) (fun k hk => heap_setCell_other _ _ _ _ hk) ⟨rfl, rfl⟩ (outs_setCell _ _ _)⟩
  | true =>
    rw [hp] at hv
    simp only [if_true] at hv ⊢
    obtain ⟨⟨n, rfl⟩, hv⟩ := hv
    rw [hv] at f3
    simp only [RV, RVs] at f3
    obtain ⟨y, rfl, z, rfl, y1, ys, h5, rfl, rfl⟩ := f3
    have hz : z = #[.int .i64 n] := by apply Array.ext'; simpa using h5
    subst hz
    show Leaves Tryz.prog Tryz.f102 _ _ _ (.panicking _) w2
    refine leaves_cons (f := 168) (args := #[.pointer (some ⟨w.heap.size, 0, none⟩)]) (by simp) (by simp [go_sem]) ?_
    refine (catch_panicking _ _ _ [] _ n rfl hc2 hz2 rfl).mono ?_
    rintro e u' w'' ⟨rfl, rfl, o, rfl⟩
    simp only [Leaves, settle]
    have hsm : ∀ b : Nat, b < w2.heap.size → (w2.alloc o).heap[b]? = w2.heap[b]? := fun b hb => by
      simp only [World.alloc, Array.getElem?_push]; rw [if_neg (by omega)]
    refine ⟨_, hres _ n _ rfl (World.cell?_setCell_same' _ _ _ ?_), fin (w2.alloc o) _ n rfl hsm (by simp) (by simp) (fun k hk => heap_setCell_other _ _ _ _ hk) ⟨rfl, rfl⟩ (outs_setCell _ _ _)⟩
    rw [cell_congr (hsm w.heap.size (lt_of_heap hB)), hc2]; rfl
end Go.Av
