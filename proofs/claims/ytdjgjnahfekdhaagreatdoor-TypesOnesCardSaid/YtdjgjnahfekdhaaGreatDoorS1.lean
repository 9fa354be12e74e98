/- The evaluator, step by step. Conditions: none beyond the hypotheses of each theorem. -/
import Derived.Test.YtdjgjnahfekdhaaGreatDoorK0
import Derived.Test.YtdjgjnahfekdhaaGreatDoorK1
import Derived.Test.YtdjgjnahfekdhaaGreatDoorK2
import Derived.Test.YtdjgjnahfekdhaaGreatDoorK3
import Derived.Test.YtdjgjnahfekdhaaGreatDoorK4
import Derived.Test.YtdjgjnahfekdhaaGreatDoorK5
import Derived.Test.YtdjgjnahfekdhaaGreatDoorK6
import Derived.Test.YtdjgjnahfekdhaaGreatDoorK7
import Derived.Test.YtdjgjnahfekdhaaGreatDoorK8
import Derived.Test.YtdjgjnahfekdhaaGreatDoorK9
import Derived.Test.YtdjgjnahfekdhaaGreatDoorK10
set_option linter.unusedSectionVars false
set_option linter.unusedVariables false
set_option linter.unusedSimpArgs false
namespace Go.Av
def known : List Known := [sc0, sc1, sc2, sc3, sc4, sc5, sc6, sc7, sc8, sc9, sc10]
theorem known_ok : ∀ k, k ∈ known → enter cfg (W cfg good) k.f k.args k.H = some k.r := by
  intro k hk
  simp only [known, List.mem_cons, List.not_mem_nil, or_false] at hk
  rcases hk with rfl | rfl | rfl | rfl | rfl | rfl | rfl | rfl | rfl | rfl | rfl
  · exact reck_W sk0
  · exact reck_W sk1
  · exact reck_W sk2
  · exact reck_W sk3
  · exact reck_W sk4
  · exact reck_W sk5
  · exact reck_W sk6
  · exact reck_W sk7
  · exact reck_W sk8
  · exact reck_W sk9
  · exact reck_W sk10
noncomputable def saneB : Bool := match enterK cfg (memoOf known) (evK cfg good (memoOf known) 200) 15 [] [] with
  | some ⟨.bool b, false, _, _⟩ => b
  | _ => false
theorem sane_reckoned : saneB = true := by kernel_rfl
theorem sane_W : ∃ H d, enter cfg (W cfg good) 15 [] [] = some ⟨.bool true, false, H, d⟩ := by
  have h := sane_reckoned
  unfold saneB at h
  split at h
  · rename_i b H d hr
    subst h
    exact ⟨H, d, enterK_W (memoOf_ok known_ok) 200 _ _ _ _ hr⟩
  · cases h
end Go.Av
namespace Go.Av
theorem ex_E : ∃ e : Ent, e = enter cfg (W cfg good) := ⟨_, rfl⟩
noncomputable def E : Ent := ex_E.choose
theorem E_eq : E = enter cfg (W cfg good) := ex_E.choose_spec
noncomputable def stepOp (f : FuncId) (o : Oper) (tm : List V) (H : Heap) : Option OR := (evDsc cfg f o (ov tm)).bind fun d => runDsc cfg E H (atPlace false o 0 d)
structure Steps (f : FuncId) (ops : Array Oper) (l : List Oper) (tm : List V) (H : Heap) (d : List Nat) (Q : List V → Heap → List Nat → Prop) : Prop where
  out : ∀ id, ∃ tm' H' d' tr, evOps cfg E f false ops id l ⟨tm, H, d⟩ = some (.normal, ⟨tm', H', d'⟩, tr) ∧ Q tm' H' d'
structure Wp (f : FuncId) (c : Code) (tm : List V) (H : Heap) (d : List Nat) (Q : Ex → List V → Heap → List Nat → Prop) : Prop where
  out : ∃ ex tm' H' d', W cfg good f c ⟨tm, H, d⟩ = some (ex, ⟨tm', H', d'⟩) ∧ Q ex tm' H' d'
variable {f : FuncId} {ops : Array Oper} {o : Oper} {l : List Oper} {tm : List V} {H : Heap} {d : List Nat} {Q : List V → Heap → List Nat → Prop} {R : Ex → List V → Heap → List Nat → Prop} {c c2 : Code}
theorem run_nil (h : Q tm H d) : Steps f ops [] tm H d Q := ⟨fun id => ⟨tm, H, d, [], rfl, h⟩⟩
theorem run_cons (hw : Region.wanted o (yld ops tm) = true) {v : V} {H1 : Heap} {k : Cls} (h : stepOp f o tm H = some ⟨v, false, H1, k⟩)
    (hn : Steps f ops l (putTm tm o.dst v) H1 (k.dirty ++ d) Q) : Steps f ops (o :: l) tm H d Q := by
  refine ⟨fun id => ?_⟩
  obtain ⟨tm', H', d', tr, h1, h2⟩ := hn.out (if isAlloc o then id + 1 else id)
  refine ⟨tm', H', d', (k, H.length) :: tr, ?_, h2⟩
  have he : (evDsc cfg f o (ov tm)).bind (fun d => runDsc cfg E H (atPlace false o id d)) = some ⟨v, false, H1, k⟩ := by
    rw [← h]
    unfold stepOp
    congr 1
  rw [evOps, if_pos hw]
  simp only [he, Bool.false_eq_true, if_false, h1, Option.map_some]
theorem run_skip (hw : Region.wanted o (yld ops tm) = false) (hn : Steps f ops l (putTm tm o.dst .junk) H d Q) : Steps f ops (o :: l) tm H d Q := by
  refine ⟨fun id => ?_⟩
  obtain ⟨tm', H', d', tr, h1, h2⟩ := hn.out (if isAlloc o then id + 1 else id)
  refine ⟨tm', H', d', (.pure, H.length) :: tr, ?_, h2⟩
  rw [evOps, if_neg (by rw [hw]; simp)]
  simp only [h1, Option.map_some]
theorem wp_region {i : Nat} (h : Steps f ops ops.toList tm H d (R .normal)) : Wp f (.region i ops false) tm H d R := by
  obtain ⟨tm', H', d', tr, h1, h2⟩ := h.out H.length
  refine ⟨.normal, tm', H', d', ?_, h2⟩
  rw [W_eq]
  simp only [stepS, holes, Bool.false_eq_true, if_false]
  have : evOps cfg (enter cfg (W cfg good)) f false ops H.length ops.toList ⟨tm, H, d⟩ = some (.normal, ⟨tm', H', d'⟩, tr) := by rw [← E_eq]; exact h1
  simp [this]
structure StepsD (f : FuncId) (ops : Array Oper) (l : List Oper) (tm : List V) (H : Heap) (d : List Nat) (Q : List V → Heap → List Nat → Prop) : Prop where
  out : ∀ id, ∃ tm' H' d' tr, evOps cfg E f true ops id l ⟨tm, H, d⟩ = some (.normal, ⟨tm', H', d'⟩, tr) ∧ tr.all Cls.still = true ∧ Q tm' H' d'
theorem runD_nil (h : Q tm H d) : StepsD f ops [] tm H d Q := ⟨fun id => ⟨tm, H, d, [], rfl, rfl, h⟩⟩
theorem runD_cons (hw : Region.wanted o (yld ops tm) = true) {v : V} {k : Cls} (h : stepOp f o tm H = some ⟨v, false, H, k⟩) (ha : isAlloc o = false) (hk : Cls.still (k, 0) = true)
    (hn : StepsD f ops l (putTm tm o.dst v) H (k.dirty ++ d) Q) : StepsD f ops (o :: l) tm H d Q := by
  refine ⟨fun id => ?_⟩
  obtain ⟨tm', H', d', tr, h1, h3, h2⟩ := hn.out (if isAlloc o then id + 1 else id)
  have hk2 : Cls.still (k, H.length) = true := by cases k <;> first | rfl | simp [Cls.still] at hk
  refine ⟨tm', H', d', (k, H.length) :: tr, ?_, by rw [List.all_cons, hk2, h3]; rfl, h2⟩
  have he : (evDsc cfg f o (ov tm)).bind (fun d => runDsc cfg E H (atPlace true o id d)) = some ⟨v, false, H, k⟩ := by
    rw [← h]
    unfold stepOp
    congr 1
    funext d
    cases d <;> simp [atPlace, ha]
  rw [evOps, if_pos hw]
  simp only [he, Bool.false_eq_true, if_false, h1, Option.map_some]
theorem runD_skip (hw : Region.wanted o (yld ops tm) = false) (hn : StepsD f ops l (putTm tm o.dst .junk) H d Q) : StepsD f ops (o :: l) tm H d Q := by
  refine ⟨fun id => ?_⟩
  obtain ⟨tm', H', d', tr, h1, h3, h2⟩ := hn.out (if isAlloc o then id + 1 else id)
  refine ⟨tm', H', d', (.pure, H.length) :: tr, ?_, by rw [List.all_cons, h3]; rfl, h2⟩
  rw [evOps, if_neg (by rw [hw]; simp)]
  simp only [h1, Option.map_some]
theorem wp_draw {i : Nat} (ha : (ops.toList.filter isAlloc).length = 0) (h : StepsD f ops ops.toList tm H d (R .normal)) : Wp f (.region i ops true) tm H d R := by
  obtain ⟨tm', H', d', tr, h1, h3, h2⟩ := h.out H.length
  refine ⟨.normal, tm', H', d', ?_, h2⟩
  rw [W_eq]
  simp only [stepS, holes, if_true, ha, List.replicate_zero, List.append_nil]
  have : evOps cfg (enter cfg (W cfg good)) f true ops H.length ops.toList ⟨tm, H, d⟩ = some (.normal, ⟨tm', H', d'⟩, tr) := by rw [← E_eq]; exact h1
  simp [this, h3, good, Ex.isPanic]
theorem wp_skip (h : R .normal tm H d) : Wp f .skip tm H d R := ⟨_, _, _, _, by rw [W_eq]; rfl, h⟩
theorem wp_ret (h : R .ret tm H d) : Wp f .ret tm H d R := ⟨_, _, _, _, by rw [W_eq]; rfl, h⟩
theorem wp_exit {i : Nat} (h : R (.exit i) tm H d) : Wp f (.exit i) tm H d R := ⟨_, _, _, _, by rw [W_eq]; rfl, h⟩
def Then (f : FuncId) (c : Code) (R : Ex → List V → Heap → List Nat → Prop) : Ex → List V → Heap → List Nat → Prop
  | .normal => fun tm H d => Wp f c tm H d R
  | e => R e
theorem wp_seq (h : Wp f c tm H d (Then f c2 R)) : Wp f (.seq c c2) tm H d R := by
  obtain ⟨ex, tm', H', d', h1, h2⟩ := h.out
  cases ex with
  | normal =>
    obtain ⟨ex, tm2, H2, d2, h3, h4⟩ := Wp.out h2
    exact ⟨ex, tm2, H2, d2, by rw [W_eq]; simp only [stepS, stepE, h1]; exact h3, h4⟩
  | _ => exact ⟨_, tm', H', d', by rw [W_eq]; simp only [stepS, stepE, h1], h2⟩
theorem wp_cond {x : Operand} {b : Bool} (hx : ov tm x = some (.bool b)) (h : Wp f (if b then c else c2) tm H d R) : Wp f (.cond x c c2) tm H d R := by
  obtain ⟨ex, tm', H', d', h1, h2⟩ := h.out
  refine ⟨ex, tm', H', d', ?_, h2⟩
  rw [W_eq]
  cases b
  · simp only [stepS, stepE, hx]; simpa using h1
  · simp only [stepS, stepE, hx]; simpa using h1
def Block (i : Nat) (R : Ex → List V → Heap → List Nat → Prop) : Ex → List V → Heap → List Nat → Prop
  | .exit j => if j = i then R .normal else R (.exit j)
  | e => R e
theorem wp_block {i : Nat} (h : Wp f c tm H d (Block i R)) : Wp f (.block i c) tm H d R := by
  obtain ⟨ex, tm', H', d', h1, h2⟩ := h.out
  cases ex with
  | exit j =>
    by_cases hj : j = i
    · subst hj
      simp only [Block, if_true] at h2
      exact ⟨.normal, tm', H', d', by rw [W_eq]; simp only [stepS, stepE, h1, if_true], h2⟩
    · simp only [Block, if_neg hj] at h2
      exact ⟨.exit j, tm', H', d', by rw [W_eq]; simp only [stepS, stepE, h1, if_neg hj], h2⟩
  | _ => exact ⟨_, tm', H', d', by rw [W_eq]; simp only [stepS, stepE, h1], h2⟩
theorem wp_loop (I : List V → Heap → List Nat → Prop) (m : List V → Heap → Nat) (h0 : I tm H d)
    (hr : ∀ tm H d, I tm H d → Wp f c tm H d fun e tm' H' d' => match e with | .normal => I tm' H' d' ∧ m tm' H' < m tm H | e => R e tm' H' d') : Wp f (.loop c) tm H d R := by
  have key : ∀ (n : Nat) (tm : List V) (H : Heap) (d : List Nat), m tm H < n → I tm H d → Wp f (.loop c) tm H d R := by
    intro n
    induction n with
    | zero => intro tm H d hm; omega
    | succ n ih =>
      intro tm H d hm hi
      obtain ⟨ex, tm', H', d', h1, h2⟩ := (hr tm H d hi).out
      cases ex with
      | normal =>
        obtain ⟨ex, tm2, H2, d2, h3, h4⟩ := (ih tm' H' d' (by omega) h2.1).out
        exact ⟨ex, tm2, H2, d2, by rw [W_eq]; simp only [stepS, stepE, h1]; exact h3, h4⟩
      | _ => exact ⟨_, tm', H', d', by rw [W_eq]; simp only [stepS, stepE, h1], h2⟩
  exact key (m tm H + 1) tm H d (Nat.lt_succ_self _) h0
theorem Wp.mono {R' : Ex → List V → Heap → List Nat → Prop} (h : Wp f c tm H d R) (hi : ∀ e tm H d, R e tm H d → R' e tm H d) : Wp f c tm H d R' := by
  obtain ⟨ex, tm', H', d', h1, h2⟩ := h.out
  exact ⟨ex, tm', H', d', h1, hi _ _ _ _ h2⟩
theorem enter_wp {g : FuncId} {fn : Func} {args : List V} {P : CR → Prop} (hf : cfg.F g = some fn) (hb : fn.body = some c) (h : Wp g c (args ++ List.replicate (fn.ntmps - args.length) .junk) H [] fun e tm' H' d' => (e = .normal ∨ e = .ret) ∧ ∃ v, results cfg fn ⟨tm', H', d'⟩ = some v ∧ P ⟨v, false, H', d'⟩) :
    ∃ r, E g args H = some r ∧ P r := by
  obtain ⟨ex, tm', H', d', h1, h2, v, h3, h4⟩ := h.out
  refine ⟨_, ?_, h4⟩
  rw [E_eq]
  unfold enter
  simp only [hf, hb, h1]
  rcases h2 with rfl | rfl <;> simp [h3]
end Go.Av
namespace Go.Av
variable {f : FuncId} {ops : Array Oper} {o : Oper} {l : List Oper} {tm : List V} {H : Heap} {d : List Nat} {Q : List V → Heap → List Nat → Prop} {R : Ex → List V → Heap → List Nat → Prop} {c c2 : Code}
def easy (o : Oper) : Bool := match o.op with
  | .indexAddr _ _ _ | .index _ _ _ | .lookup _ _ _ _ | .mapUpdate _ _ _ _ | .slice _ _ _ _ _ | .makeSlice _ _ _ => false
  | .call k => match k.callee with
    | .builtin .append => false
    | .builtin _ => true
    | _ => false
  | _ => true
theorem run_easy (he : easy o = true) (hw : Region.wanted o (yld ops tm) = true) {v : V} {H1 : Heap} {k : Cls} (h : stepOp f o tm H = some ⟨v, false, H1, k⟩)
    {tm1 : List V} (hp : putTm tm o.dst v = tm1) (hn : Steps f ops l tm1 H1 (k.dirty ++ d) Q) : Steps f ops (o :: l) tm H d Q := run_cons hw h (by rw [hp]; exact hn)
theorem run_next (hw : Region.wanted o (yld ops tm) = true) {v : V} {H1 : Heap} {k : Cls} (h : stepOp f o tm H = some ⟨v, false, H1, k⟩)
    {tm1 : List V} (hp : putTm tm o.dst v = tm1) (hn : Steps f ops l tm1 H1 (k.dirty ++ d) Q) : Steps f ops (o :: l) tm H d Q := run_cons hw h (by rw [hp]; exact hn)
theorem run_pass (hw : Region.wanted o (yld ops tm) = false) {tm1 : List V} (hp : putTm tm o.dst .junk = tm1) (hn : Steps f ops l tm1 H d Q) : Steps f ops (o :: l) tm H d Q := run_skip hw (by rw [hp]; exact hn)
theorem runD_pass (hw : Region.wanted o (yld ops tm) = false) {tm1 : List V} (hp : putTm tm o.dst .junk = tm1) (hn : StepsD f ops l tm1 H d Q) : StepsD f ops (o :: l) tm H d Q := runD_skip hw (by rw [hp]; exact hn)
theorem runD_next (hw : Region.wanted o (yld ops tm) = true) {v : V} {k : Cls} (h : stepOp f o tm H = some ⟨v, false, H, k⟩) (ha : isAlloc o = false) (hk : Cls.still (k, 0) = true)
    {tm1 : List V} (hp : putTm tm o.dst v = tm1) (hn : StepsD f ops l tm1 H (k.dirty ++ d) Q) : StepsD f ops (o :: l) tm H d Q := runD_cons hw h ha hk (by rw [hp]; exact hn)
theorem runD_easy (he : easy o = true) (hw : Region.wanted o (yld ops tm) = true) {v : V} {k : Cls} (h : stepOp f o tm H = some ⟨v, false, H, k⟩) (ha : isAlloc o = false) (hk : Cls.still (k, 0) = true)
    {tm1 : List V} (hp : putTm tm o.dst v = tm1) (hn : StepsD f ops l tm1 H (k.dirty ++ d) Q) : StepsD f ops (o :: l) tm H d Q := runD_cons hw h ha hk (by rw [hp]; exact hn)
theorem step_of {D : Dsc} {r : OR} (h : evDsc cfg f o (ov tm) = some D) (hr : runDsc cfg E H (atPlace false o 0 D) = some r) : stepOp f o tm H = some r := by
  unfold stepOp
  rw [h]; exact hr
theorem step_call {g : FuncId} {args : List V} {r : OR} (h : evDsc cfg f o (ov tm) = some (.call g args)) (hi : isCall o = true) (hr : callF cfg E g args H = some r) : stepOp f o tm H = some r :=
  step_of h (by simp only [atPlace, hi, if_true, runDsc]; exact hr)
theorem step_val {v : V} (h : evDsc cfg f o (ov tm) = some (.val v)) : stepOp f o tm H = some ⟨v, false, H, .pure⟩ := step_of h rfl
theorem step_idx {t e : TypeId} {x j : Operand} {kk : IntKind} {n : Int} {len : Nat} {full : Bool} {cs cs' : List V} {it ie : TI} (ho : o.op = .indexAddr t x j) (hT : cfg.T t = some it) (hd : it.d = .slice e) (hE : cfg.T e = some ie)
    (hj : ov tm j = some (.int kk n)) (hx : ov tm x = some (.sl len full cs)) (h0 : 0 ≤ n ∧ n < len) (hc : cs.drop (n.toNat * ie.size) = cs') : stepOp f o tm H = some ⟨.fp cs', false, H, .pure⟩ := by
  refine step_val ?_
  obtain ⟨a, b, c, z, dd⟩ := it
  simp only at hd
  subst hd
  simp only [evDsc, ho, hT, hE, hj, hx, Option.bind_some, if_pos h0, hc]
theorem step_enc {t : TypeId} {x : Operand} {it : TI} {cs rest : List V} (ho : o.op = .load t x) (hT : cfg.T t = some it) (ha : it.agg = true) (hl : cs.length = it.size) (hx : ov tm x = some (.fp (cs ++ rest))) : stepOp f o tm H = some ⟨.agg cs, false, H, .pure⟩ := by
  refine step_val ?_
  simp only [evDsc, ho, hx, hT, Option.bind_some, loadD, part]
  rw [if_pos (by simp; omega), if_pos ha]
  simp [← hl]
theorem step_byte {t : TypeId} {x j : Operand} {kk : IntKind} {n : Int} {s : ByteArray} {b : UInt8} {it : TI} (ho : o.op = .index t x j) (hT : cfg.T t = some it) (hd : it.d = .str)
    (hx : ov tm x = some (.str s)) (hj : ov tm j = some (.int kk n)) (h0 : 0 ≤ n) (hb : s[n.toNat]? = some b) : stepOp f o tm H = some ⟨.int .u8 b.toNat, false, H, .pure⟩ := by
  refine step_val ?_
  simp only [evDsc, ho, hT, Option.bind_some, hd, hx, hj, if_pos h0, hb, Option.map_some]
theorem list_fn (l : List V) : l = (List.range l.length).map fun k => l.getD k .junk := by
  apply List.ext_getElem?
  intro j
  rw [List.getElem?_map]
  by_cases h : j < l.length
  · rw [List.getElem?_range h]
    simp [h]
  · rw [List.getElem?_eq_none (by omega), List.getElem?_eq_none (by simp; omega)]
    rfl
theorem wp_loop2 {α : Type} (m : Nat) (pre : α → List V) (J : α → Heap → Prop) (μ : α → Nat) (a0 : α) (h0 : ∃ tail, tm = pre a0 ++ tail ∧ tail.length = m ∧ J a0 H)
    (hr : ∀ a H d (u : Nat → V), J a H → Wp f c (pre a ++ (List.range m).map u) H d fun e tm' H' d' => match e with | .normal => ∃ a' tail, tm' = pre a' ++ tail ∧ tail.length = m ∧ J a' H' ∧ μ a' < μ a | e => R e tm' H' d') : Wp f (.loop c) tm H d R := by
  obtain ⟨tail, rfl, hl, hJ⟩ := h0
  have key : ∀ (n : Nat) (a : α) (tail : List V) (H : Heap) (d : List Nat), μ a < n → tail.length = m → J a H → Wp f (.loop c) (pre a ++ tail) H d R := by
    intro n
    induction n with
    | zero => intro a tail H d hm; omega
    | succ n ih =>
      intro a tail H d hm ht hJ
      have hb := hr a H d (fun k => tail.getD k .junk) hJ
      rw [← ht, ← list_fn tail] at hb
      obtain ⟨ex, tm', H', d', h1, h2⟩ := hb.out
      cases ex with
      | normal =>
        obtain ⟨a', tail', rfl, ht', hJ', hμ⟩ := h2
        obtain ⟨ex, tm2, H2, d2, h3, h4⟩ := (ih a' tail' H' d' (by omega) (by rw [ht', ht]) hJ').out
        exact ⟨ex, tm2, H2, d2, by rw [W_eq]; simp only [stepS, stepE, h1]; exact h3, h4⟩
      | _ => exact ⟨_, tm', H', d', by rw [W_eq]; simp only [stepS, stepE, h1], h2⟩
  exact key (μ a0 + 1) a0 tail H d (Nat.lt_succ_self _) hl hJ
theorem wp_yes {x : Operand} {b : Bool} (hx : ov tm x = some (.bool b)) (hb : b = true) (h : Wp f c tm H d R) : Wp f (.cond x c c2) tm H d R :=
  wp_cond hx (by rw [hb]; exact h)
theorem wp_no {x : Operand} {b : Bool} (hx : ov tm x = some (.bool b)) (hb : b = false) (h : Wp f c2 tm H d R) : Wp f (.cond x c c2) tm H d R :=
  wp_cond hx (by rw [hb]; exact h)
def Fn (g : FuncId) (args : List V) (v : V) : Prop := ∃ r, E g args [] = some r ∧ r.pan = false ∧ strip r.H 0 false sf r.v = some v
theorem strip_flat {H : Heap} {n0 n : Nat} {all : Bool} {v : V} (h : v.flat = true) : strip H n0 all (n + 1) v = some v := by
  unfold strip
  rw [if_pos h]
theorem strips_flat {H : Heap} {n0 n : Nat} {all : Bool} : ∀ {l : List V}, V.flats l = true → l.mapM (strip H n0 all (n + 1)) = some l
  | [], _ => rfl
  | v :: l, h => by
    simp only [V.flats, Bool.and_eq_true] at h
    simp only [List.mapM_cons, strip_flat h.1, strips_flat h.2, Option.bind_eq_bind, Option.bind_some, Option.pure_def]
theorem Fn.call {g : FuncId} {args : List V} {v : V} (h : Fn g args v) (hg : g ≠ 102) (hk : cfg.keep g = false) (hf : V.flats args = true) (H : Heap) : callF cfg E g args H = some ⟨v, false, H, .pure⟩ := by
  obtain ⟨r, h1, h2, h3⟩ := h
  unfold callF
  rw [if_neg (show g ≠ cfg.guard from hg), if_neg (by rw [hk]; simp)]
  have e1 : ∀ H : Heap, args.mapM (strip H 0 true sf) = some args := fun H => strips_flat hf
  simp only [e1, h1, Option.bind_some, h3, h2, Option.isSome_some, if_true]
theorem Fn.of_wp {g : FuncId} {fn : Func} {args : List V} {v : V} (hf : cfg.F g = some fn) (hb : fn.body = some c) (h : Wp g c (args ++ List.replicate (fn.ntmps - args.length) .junk) [] [] fun e tm' H' d' => (e = .normal ∨ e = .ret) ∧ ∃ u, results cfg fn ⟨tm', H', d'⟩ = some u ∧ strip H' 0 false sf u = some v) : Fn g args v := by
  obtain ⟨r, h1, h2⟩ := enter_wp (P := fun r => r.pan = false ∧ strip r.H 0 false sf r.v = some v) hf hb (h.mono fun e tm H d hq => ⟨hq.1, hq.2.choose, hq.2.choose_spec.1, rfl, hq.2.choose_spec.2⟩)
  exact ⟨r, h1, h2⟩
def rows {α : Type} (enc : α → List V) (l : List α) : List V := l.flatMap enc
theorem rows_cons {α : Type} (enc : α → List V) (x : α) (l : List α) : rows enc (x :: l) = enc x ++ rows enc l := rfl
theorem rows_drop {α : Type} {enc : α → List V} {k : Nat} (hk : ∀ x, (enc x).length = k) : ∀ (l : List α) (i : Nat) {x : α}, l[i]? = some x → (rows enc l).drop (i * k) = enc x ++ rows enc (l.drop (i + 1))
  | [], i, x, h => by simp at h
  | y :: l, 0, x, h => by simp at h; subst h; simp [rows_cons]
  | y :: l, i + 1, x, h => by
    have := rows_drop hk l i (by simpa using h)
    rw [rows_cons, List.drop_append, hk y]
    have e1 : (enc y).drop ((i + 1) * k) = [] := List.drop_eq_nil_of_le (by rw [hk, Nat.add_mul]; omega)
    rw [e1, List.nil_append, show (i + 1) * k - k = i * k by rw [Nat.add_mul]; omega, this]
    simp
theorem drop_rows {α : Type} {enc : α → List V} {k : Nat} (hk : ∀ x, (enc x).length = k) {l : List α} {i : Nat} {x : α} (h : l[i]? = some x) : (rows enc l).drop (((i : Nat) : Int).toNat * k) = enc x ++ rows enc (l.drop (i + 1)) := by
  rw [Int.toNat_natCast]
  exact rows_drop hk l i h
theorem drop_of {α : Type} {l : List α} {i : Nat} {x : α} (h : l[i]? = some x) : l.drop i = x :: l.drop (i + 1) := by
  have hi : i < l.length := (List.getElem?_eq_some_iff.1 h).1
  rw [List.drop_eq_getElem_cons hi]
  rw [List.getElem?_eq_getElem hi] at h
  rw [Option.some.inj h]
theorem get_of {α : Type} {l : List α} {i : Nat} (h : i < l.length) : ∃ x, l[i]? = some x := ⟨l[i], List.getElem?_eq_getElem h⟩
theorem rows_length {α : Type} {enc : α → List V} {k : Nat} (hk : ∀ x, (enc x).length = k) : ∀ l : List α, (rows enc l).length = l.length * k
  | [] => by simp [rows]
  | x :: l => by rw [rows_cons, List.length_append, hk, rows_length hk l, List.length_cons, Nat.add_mul]; omega
theorem flats_append : ∀ (a b : List V), V.flats (a ++ b) = (V.flats a && V.flats b)
  | [], b => by simp [V.flats]
  | x :: a, b => by simp [V.flats, flats_append a b, Bool.and_assoc]
theorem flats_rows {α : Type} {enc : α → List V} (h : ∀ x, V.flats (enc x) = true) : ∀ l : List α, V.flats (rows enc l) = true
  | [] => rfl
  | x :: l => by rw [rows_cons, flats_append, h, flats_rows h l]; rfl
abbrev intV (n : Int) : List V := [.int .i64 n]
abbrev strV (s : ByteArray) : List V := [.str s]
abbrev ints (l : List Int) : List V := rows intV l
abbrev strs (l : List ByteArray) : List V := rows strV l
theorem contains_yes {α : Type} [BEq α] [LawfulBEq α] {l : List α} {i : Nat} {n : α} (h : l[i]? = some n) : l.contains n = true := by
  rw [List.contains_iff_mem]; exact List.mem_of_getElem? h
theorem contains_no {α : Type} [BEq α] [LawfulBEq α] {l : List α} {n : α} (h : ∀ j, j < l.length → l[j]? ≠ some n) : l.contains n = false := by
  cases hc : l.contains n
  · rfl
  · rw [List.contains_iff_mem] at hc
    obtain ⟨j, hj⟩ := List.getElem?_of_mem hc
    exact absurd hj (h j (List.getElem?_eq_some_iff.1 hj).1)
theorem below_succ {P : Nat → Prop} {i : Nat} (h : ∀ j, j < i → P j) (hi : P i) : ∀ j, j < i + 1 → P j := fun j hj => by
  by_cases e : j = i
  · subst e; exact hi
  · exact h j (by omega)
theorem byte_at (s : ByteArray) (i : Nat) : s[i]? = s.data.toList[i]? := by
  by_cases h : i < s.size
  · rw [getElem?_pos s i h, List.getElem?_eq_getElem (by simpa using h)]
    simp [ByteArray.getElem_eq_getElem_data]
  · rw [getElem?_neg s i h, List.getElem?_eq_none (by simpa using h)]
theorem byte_of {s : ByteArray} {i : Nat} (h : i < s.size) : ∃ b, s[(i : Int).toNat]? = some b ∧ s.data.toList[i]? = some b := by
  have hl : i < s.data.toList.length := by simpa using h
  exact ⟨s.data.toList[i], by rw [Int.toNat_natCast, byte_at, List.getElem?_eq_getElem hl], List.getElem?_eq_getElem hl⟩
theorem take_count {l : List UInt8} {i : Nat} {b c : UInt8} (h : l[i]? = some b) : (l.take (i + 1)).count c = (l.take i).count c + if b = c then 1 else 0 := by
  rw [List.take_add_one, h, List.count_append]
  by_cases hb : b = c
  · subst hb; simp
  · simp [hb]
theorem take_count_ne {l : List UInt8} {i : Nat} {b c : UInt8} (h : l[i]? = some b) (hb : ¬ b = c) : (l.take (i + 1)).count c = (l.take i).count c := by
  rw [take_count h, if_neg hb]; rfl
theorem u8_eq {b c : UInt8} : ((b.toNat : Int) == (c.toNat : Int)) = decide (b = c) := by
  by_cases h : b = c
  · subst h; simp
  · have : b.toNat ≠ c.toNat := fun e => h (UInt8.toNat_inj.1 e)
    simp [h]; omega
theorem all_no {α : Type} {l : List α} {p : α → Bool} {i : Nat} {x : α} (h : l[i]? = some x) (hp : p x = false) : l.all p = false := by
  cases ha : l.all p
  · rfl
  · have := List.all_eq_true.1 ha x (List.mem_of_getElem? h)
    rw [hp] at this; cases this
theorem all_yes {α : Type} {l : List α} {p : α → Bool} (h : ∀ j, j < l.length → ∀ x, l[j]? = some x → p x = true) : l.all p = true := by
  rw [List.all_eq_true]
  intro x hx
  obtain ⟨j, hj⟩ := List.getElem?_of_mem hx
  exact h j (List.getElem?_eq_some_iff.1 hj).1 x hj
def cnt (tm : List V) (k : Nat) : Nat := match tm[k]? with
  | some (.int _ n) => n.toNat
  | _ => 0
theorem wrap_in {n : Int} (h1 : -9223372036854775808 ≤ n) (h2 : n ≤ 9223372036854775807) : IntKind.i64.wrap n = n := by
  rw [IntKind.wrap_i64]; omega
theorem wrap_succ {i : Nat} (h : i < 9223372036854775807) : IntKind.i64.wrap ((i : Int) + 1) = ((i + 1 : Nat) : Int) := by
  rw [wrap_in (by omega) (by omega)]; rfl
/-! short names for the steps -/
theorem zE {v : V} {H1 : Heap} {k : Cls} {tm1 : List V} (hn : Steps f ops l tm1 H1 (k.dirty ++ d) Q) (he : easy o = true := by exact rfl) (hw : Region.wanted o (yld ops tm) = true := by exact rfl) (h : stepOp f o tm H = some ⟨v, false, H1, k⟩ := by exact rfl) (hp : putTm tm o.dst v = tm1 := by dsimp only [putTm, List.set]): Steps f ops (o :: l) tm H d Q := run_easy he hw h hp hn
theorem zP {tm1 : List V} (hn : Steps f ops l tm1 H d Q) (hw : Region.wanted o (yld ops tm) = false := by exact rfl) (hp : putTm tm o.dst .junk = tm1 := by dsimp only [putTm, List.set]): Steps f ops (o :: l) tm H d Q := run_pass hw hp hn
theorem zD {v : V} {k : Cls} {tm1 : List V} (hn : StepsD f ops l tm1 H (k.dirty ++ d) Q) (he : easy o = true := by exact rfl) (hw : Region.wanted o (yld ops tm) = true := by exact rfl) (h : stepOp f o tm H = some ⟨v, false, H, k⟩ := by exact rfl) (ha : isAlloc o = false := by exact rfl) (hk : Cls.still (k, 0) = true := by exact rfl) (hp : putTm tm o.dst v = tm1 := by dsimp only [putTm, List.set]): StepsD f ops (o :: l) tm H d Q := runD_easy he hw h ha hk hp hn
theorem zQ {tm1 : List V} (hn : StepsD f ops l tm1 H d Q) (hw : Region.wanted o (yld ops tm) = false := by exact rfl) (hp : putTm tm o.dst .junk = tm1 := by dsimp only [putTm, List.set]): StepsD f ops (o :: l) tm H d Q := runD_pass hw hp hn
theorem zF {v : V} {H1 : Heap} {k : Cls} {tm1 : List V} (h : stepOp f o tm H = some ⟨v, false, H1, k⟩) (hn : Steps f ops l tm1 H1 (k.dirty ++ d) Q) (hw : Region.wanted o (yld ops tm) = true := by exact rfl) (hp : putTm tm o.dst v = tm1 := by dsimp only [putTm, List.set]) : Steps f ops (o :: l) tm H d Q := run_next hw h hp hn
theorem zG {v : V} {k : Cls} {tm1 : List V} (h : stepOp f o tm H = some ⟨v, false, H, k⟩) (hn : StepsD f ops l tm1 H (k.dirty ++ d) Q) (hw : Region.wanted o (yld ops tm) = true := by exact rfl) (ha : isAlloc o = false := by exact rfl) (hk : Cls.still (k, 0) = true := by exact rfl) (hp : putTm tm o.dst v = tm1 := by dsimp only [putTm, List.set]) : StepsD f ops (o :: l) tm H d Q := runD_next hw h ha hk hp hn
theorem wN (h : Q tm H d) : Steps f ops [] tm H d Q := run_nil h
theorem wM (h : Q tm H d) : StepsD f ops [] tm H d Q := runD_nil h
theorem wS (h : Wp f c tm H d (Then f c2 R)) : Wp f (.seq c c2) tm H d R := wp_seq h
theorem wB {i : Nat} (h : Wp f c tm H d (Block i R)) : Wp f (.block i c) tm H d R := wp_block h
theorem wG {i : Nat} (h : Steps f ops ops.toList tm H d (R .normal)) : Wp f (.region i ops false) tm H d R := wp_region h
theorem wD {i : Nat} (h : StepsD f ops ops.toList tm H d (R .normal)) (ha : (ops.toList.filter isAlloc).length = 0 := by exact rfl): Wp f (.region i ops true) tm H d R := wp_draw ha h
theorem wY {x : Operand} {b : Bool} (h : Wp f c tm H d R) (hx : ov tm x = some (.bool b) := by exact rfl) (hb : b = true := by exact rfl): Wp f (.cond x c c2) tm H d R := wp_yes hx hb h
theorem wZ {x : Operand} {b : Bool} (h : Wp f c2 tm H d R) (hx : ov tm x = some (.bool b) := by exact rfl) (hb : b = false := by exact rfl): Wp f (.cond x c c2) tm H d R := wp_no hx hb h
theorem wK (h : R .normal tm H d) : Wp f .skip tm H d R := wp_skip h
theorem wT (h : R .ret tm H d) : Wp f .ret tm H d R := wp_ret h
theorem wX {i : Nat} (h : R (.exit i) tm H d) : Wp f (.exit i) tm H d R := wp_exit h
end Go.Av
namespace Go.Av
inductive T where
  | mk (k n : Int) (f : Bool) (l : List T)
mutual
def tV : T → List V
  | .mk k n f l => [.int .i64 k, .int .i64 n, .sl l.length f (tsV l)]
def tsV : List T → List V
  | [] => []
  | t :: l => tV t ++ tsV l
end
theorem tsV_rows : ∀ l : List T, tsV l = rows tV l
  | [] => by simp [tsV, rows]
  | t :: l => by rw [tsV, rows_cons, tsV_rows l]
theorem tV_len (t : T) : (tV t).length = 3 := by
  obtain ⟨k, n, f, l⟩ := t
  simp [tV]
theorem tV_mk (k n : Int) (f : Bool) (l : List T) : tV (.mk k n f l) = [.int .i64 k, .int .i64 n, .sl l.length f (rows tV l)] := by rw [tV, tsV_rows]
theorem T_ind {P : T → Prop} (h : ∀ k n f l, (∀ x, x ∈ l → P x) → P (.mk k n f l)) : ∀ t, P t := by
  have key : ∀ (m : Nat) (t : T), SizeOf.sizeOf t < m → P t := by
    intro m
    induction m with
    | zero => intro t ht; omega
    | succ m ih =>
      rintro ⟨k, n, f, l⟩ ht
      refine h k n f l fun x hx => ih x ?_
      have := List.sizeOf_lt_of_mem hx
      simp at ht
      omega
  exact fun t => key _ t (Nat.lt_succ_self _)
mutual
def T.Fit : T → Prop
  | .mk k n f l => l.length ≤ 9223372036854775807 ∧ T.Fits l
def T.Fits : List T → Prop
  | [] => True
  | t :: l => T.Fit t ∧ T.Fits l
end
theorem T.Fits.at : ∀ {l : List T} {x : T}, T.Fits l → x ∈ l → T.Fit x
  | y :: l, x, h, hx => by
    simp only [T.Fits] at h
    rcases List.mem_cons.1 hx with rfl | hx
    · exact h.1
    · exact T.Fits.at h.2 hx
mutual
theorem flat_tV : ∀ t : T, V.flats (tV t) = true
  | .mk k n f l => by simp [tV, V.flats, V.flat, flat_tsV l]
theorem flat_tsV : ∀ l : List T, V.flats (tsV l) = true
  | [] => by simp [tsV, V.flats]
  | t :: l => by rw [tsV, flats_append, flat_tV t, flat_tsV l]; rfl
end
structure O where
  name : ByteArray
  args : List Int
  fa : Bool
  res : Int
def oV (o : O) : List V := [.str o.name, .sl o.args.length o.fa (ints o.args), .int .i64 o.res]
structure S where
  sorts : List ByteArray
  fs : Bool
  ops : List O
  fo : Bool
def sV (s : S) : List V := [.sl s.sorts.length s.fs (strs s.sorts), .sl s.ops.length s.fo (rows oV s.ops)]
structure C2 where
  a : T
  b : T
def cV (c : C2) : List V := tV c.a ++ tV c.b
structure Eq2 where
  vars : List Int
  fv : Bool
  conds : List C2
  fc : Bool
  a : T
  b : T
def eV (e : Eq2) : List V := .sl e.vars.length e.fv (ints e.vars) :: .sl e.conds.length e.fc (rows cV e.conds) :: (tV e.a ++ tV e.b)
structure Ty where
  sig : S
  eqns : List Eq2
  fe : Bool
def yV (t : Ty) : List V := [.sl t.sig.sorts.length t.sig.fs (strs t.sig.sorts), .sl t.sig.ops.length t.sig.fo (rows oV t.sig.ops), .sl t.eqns.length t.fe (rows eV t.eqns)]
theorem flat_ints (l : List Int) : V.flats (ints l) = true := flats_rows (fun _ => rfl) l
theorem flat_strs (l : List ByteArray) : V.flats (strs l) = true := flats_rows (fun _ => rfl) l
theorem flat_oV (o : O) : V.flats (oV o) = true := by simp [oV, V.flats, V.flat, flat_ints]
theorem flat_sV (s : S) : V.flats (sV s) = true := by simp [sV, V.flats, V.flat, flat_strs, flats_rows flat_oV]
theorem flat_cV (c : C2) : V.flats (cV c) = true := by simp [cV, flats_append, flat_tV]
theorem flat_eV (e : Eq2) : V.flats (eV e) = true := by simp [eV, V.flats, V.flat, flats_append, flat_tV, flat_ints, flats_rows flat_cV]
theorem flat_yV (t : Ty) : V.flats (yV t) = true := by simp [yV, V.flats, V.flat, flat_strs, flats_rows flat_oV, flats_rows flat_eV]
theorem oV_len (o : O) : (oV o).length = 3 := rfl
theorem cV_len (c : C2) : (cV c).length = 6 := by simp [cV, tV_len]
theorem eV_len (e : Eq2) : (eV e).length = 8 := by simp [eV, tV_len]
structure S.Fit (s : S) : Prop where
  sorts : s.sorts.length ≤ 9223372036854775807
  ops : s.ops.length ≤ 9223372036854775807
  sort : ∀ (j : Nat) b, s.sorts[j]? = some b → b.size ≤ 9223372036854775807
  op : ∀ (j : Nat) o, s.ops[j]? = some o → o.name.size ≤ 9223372036854775807 ∧ o.args.length ≤ 9223372036854775807
theorem Fn.cl {H : Heap} {g : FuncId} {args : List V} {v : V} (h : Fn g args v) (hg : g ≠ 102 := by decide) (hk : cfg.keep g = false := by exact rfl)
    (hf : V.flats args = true := by simp [V.flats, V.flat, flat_tV, flat_sV, flat_ints, flat_oV, flat_eV, flat_yV, flat_strs, flats_rows flat_tV, flats_rows flat_cV, flats_rows flat_oV, flats_rows flat_eV, flats_rows flat_yV]) : callF cfg E g args H = some ⟨v, false, H, .pure⟩ := h.call hg hk hf H
end Go.Av
namespace Go.Av
variable {f : FuncId} {ops : Array Oper} {o : Oper} {l : List Oper} {tm : List V} {H : Heap} {d : List Nat} {Q : List V → Heap → List Nat → Prop} {R : Ex → List V → Heap → List Nat → Prop} {c c2 : Code}
theorem step_load {t : TypeId} {x : Operand} {it : TI} {k off : Nat} {cs : List V} {v : V} (ho : o.op = .load t x) (hx : ov tm x = some (.bp k off)) (hT : cfg.T t = some it) (hH : H[k]? = some (.box cs)) (hp : part it cs off = some v) :
    stepOp f o tm H = some ⟨v, false, H, .reads k⟩ := by
  refine step_of (D := .read k fun | .box cs => part it cs off | _ => none) ?_ ?_
  · simp only [evDsc, ho, hx, hT, Option.bind_some, loadD]
    rfl
  · simp only [atPlace, runDsc, hH, Option.bind_some, hp, Option.map_some]
theorem step_enc2 {t : TypeId} {x : Operand} {it : TI} {L cs rest : List V} (ho : o.op = .load t x) (hT : cfg.T t = some it) (ha : it.agg = true) (hl : cs.length = it.size) (hx : ov tm x = some (.fp L)) (hL : L = cs ++ rest) : stepOp f o tm H = some ⟨.agg cs, false, H, .pure⟩ := by
  subst hL
  exact step_enc ho hT ha hl hx
theorem drop_tV (t : T) (r : List V) : (tV t ++ r).drop 3 = r := by
  rw [List.drop_append, List.drop_eq_nil_of_le (by rw [tV_len]; omega), tV_len]; simp
theorem drop_conds {l : List C2} {i : Nat} {x : C2} (h : l[i]? = some x) : (rows cV l).drop (((i : Nat) : Int).toNat * 6) = tV x.a ++ (tV x.b ++ rows cV (l.drop (i + 1))) := by
  rw [drop_rows cV_len h, cV, List.append_assoc]
theorem step_append {k : Call} {s x : V} {t : TypeId} {D : Dsc} {r : OR} (ho : o.op = .call k) (hb : k.callee = .builtin .append) (ha : k.args.toList.mapM (ov tm) = some [s, x]) (ht : k.argTypes.toList = [t, t]) (hD : appendD cfg f (o.dst.getD 0) t s x = some D)
    (hr : runDsc cfg E H (atPlace false o 0 D) = some r) : stepOp f o tm H = some r := by
  refine step_of (D := D) ?_ hr
  simp only [evDsc, ho, hb, ha, Option.bind_some, ht, if_true, hD]
theorem append_nil {fid dst : Nat} {x : V} {fl : Bool} (hst : cfg.st fid dst = false) : ∃ D, appendD cfg fid dst 27 (.sl 0 true []) (.sl 1 fl [x]) = some D ∧ ∀ o : Oper, isAlloc o = false → runDsc cfg E H (atPlace false o 0 D) = some ⟨.own H.length 0 1 1, false, H ++ [.arr 1 false 0 [x]], .add⟩ := by
  have e27 : cfg.T 27 = some ⟨false, 1, 24, [.sl 0 true []], .slice 3⟩ := rfl
  have e3 : cfg.T 3 = some ⟨false, 1, 8, [.int .i64 0], .int .i64⟩ := rfl
  refine ⟨_, by
    unfold appendD
    simp only [e27, e3]
    rw [if_neg (by decide), if_neg (by decide), if_pos (by refine ⟨?_, ?_, ?_, ?_⟩ <;> first | trivial | rfl | decide), hst], fun o ho => ?_⟩
  simp only [atPlace, ho, Bool.false_and, Bool.false_eq_true, if_false, runDsc]
  rfl
theorem call_keep {g : FuncId} {args : List V} {r : CR} (hg : g ≠ 102) (hk : cfg.keep g = true) (h : E g args H = some r) : callF cfg E g args H = some ⟨r.v, r.pan, r.H, .eff r.d⟩ := by
  unfold callF
  rw [if_neg (show g ≠ cfg.guard from hg), if_pos hk, h]
  rfl
theorem Fn.call_strip {g : FuncId} {args args2 : List V} {v : V} (h : Fn g args2 v) (hg : g ≠ 102) (hk : cfg.keep g = false) (hs : args.mapM (strip H 0 true sf) = some args2) : callF cfg E g args H = some ⟨v, false, H, if (args.mapM (strip [] 0 true sf)).isSome then .pure else .pcall⟩ := by
  obtain ⟨r, h1, h2, h3⟩ := h
  unfold callF
  rw [if_neg (show g ≠ cfg.guard from hg), if_neg (by rw [hk]; simp)]
  simp only [hs, h1, Option.bind_some, h3, h2]
end Go.Av
namespace Go.Av
variable {f : FuncId} {ops : Array Oper} {o : Oper} {l : List Oper} {tm : List V} {H : Heap} {d : List Nat} {Q : List V → Heap → List Nat → Prop} {R : Ex → List V → Heap → List Nat → Prop} {c c2 : Code}
structure StepsR (f : FuncId) (ops : Array Oper) (tr : List (Cls × Nat)) (l : List Oper) (tm : List V) (H : Heap) (d : List Nat) (Q : List V → Heap → List Nat → Prop) : Prop where
  out : ∀ id, ∃ tm' H' d' tr', evOps cfg E f true ops id l ⟨tm, H, d⟩ = some (.normal, ⟨tm', H', d'⟩, tr') ∧ okDraw ops (tr ++ tr') false = true ∧ Q tm' H' d'
theorem runR_nil {tr : List (Cls × Nat)} (ht : okDraw ops tr false = true) (h : Q tm H d) : StepsR f ops tr [] tm H d Q := ⟨fun id => ⟨tm, H, d, [], rfl, by rw [List.append_nil]; exact ht, h⟩⟩
theorem runR_cons {tr : List (Cls × Nat)} (hw : Region.wanted o (yld ops tm) = true) {v : V} {H1 : Heap} {k : Cls} (h : stepOp f o tm H = some ⟨v, false, H1, k⟩) (ha : isAlloc o = false)
    (hn : StepsR f ops (tr ++ [(k, H.length)]) l (putTm tm o.dst v) H1 (k.dirty ++ d) Q) : StepsR f ops tr (o :: l) tm H d Q := by
  refine ⟨fun id => ?_⟩
  obtain ⟨tm', H', d', tr', h1, h3, h2⟩ := hn.out (if isAlloc o then id + 1 else id)
  refine ⟨tm', H', d', (k, H.length) :: tr', ?_, by simpa using h3, h2⟩
  have he : (evDsc cfg f o (ov tm)).bind (fun d => runDsc cfg E H (atPlace true o id d)) = some ⟨v, false, H1, k⟩ := by
    rw [← h]
    unfold stepOp
    congr 1
    funext d
    cases d <;> simp [atPlace, ha]
  rw [evOps, if_pos hw]
  simp only [he, Bool.false_eq_true, if_false, h1, Option.map_some]
theorem runR_skip {tr : List (Cls × Nat)} (hw : Region.wanted o (yld ops tm) = false) (hn : StepsR f ops (tr ++ [(.pure, H.length)]) l (putTm tm o.dst .junk) H d Q) : StepsR f ops tr (o :: l) tm H d Q := by
  refine ⟨fun id => ?_⟩
  obtain ⟨tm', H', d', tr', h1, h3, h2⟩ := hn.out (if isAlloc o then id + 1 else id)
  refine ⟨tm', H', d', (.pure, H.length) :: tr', ?_, by simpa using h3, h2⟩
  rw [evOps, if_neg (by rw [hw]; simp)]
  simp only [h1, Option.map_some]
theorem runR_next {tr : List (Cls × Nat)} (hw : Region.wanted o (yld ops tm) = true) {v : V} {H1 : Heap} {k : Cls} (h : stepOp f o tm H = some ⟨v, false, H1, k⟩) (ha : isAlloc o = false)
    {tm1 : List V} (hp : putTm tm o.dst v = tm1) (hn : StepsR f ops (tr ++ [(k, H.length)]) l tm1 H1 (k.dirty ++ d) Q) : StepsR f ops tr (o :: l) tm H d Q := runR_cons hw h ha (by rw [hp]; exact hn)
theorem runR_easy {tr : List (Cls × Nat)} (he : easy o = true) (hw : Region.wanted o (yld ops tm) = true) {v : V} {H1 : Heap} {k : Cls} (h : stepOp f o tm H = some ⟨v, false, H1, k⟩) (ha : isAlloc o = false)
    {tm1 : List V} (hp : putTm tm o.dst v = tm1) (hn : StepsR f ops (tr ++ [(k, H.length)]) l tm1 H1 (k.dirty ++ d) Q) : StepsR f ops tr (o :: l) tm H d Q := runR_cons hw h ha (by rw [hp]; exact hn)
theorem runR_pass {tr : List (Cls × Nat)} (hw : Region.wanted o (yld ops tm) = false) {tm1 : List V} (hp : putTm tm o.dst .junk = tm1) (hn : StepsR f ops (tr ++ [(.pure, H.length)]) l tm1 H d Q) : StepsR f ops tr (o :: l) tm H d Q := runR_skip hw (by rw [hp]; exact hn)
theorem wp_drawR {i : Nat} (ha : (ops.toList.filter isAlloc).length = 0) (h : StepsR f ops [] ops.toList tm H d (R .normal)) : Wp f (.region i ops true) tm H d R := by
  obtain ⟨tm', H', d', tr, h1, h3, h2⟩ := h.out H.length
  refine ⟨.normal, tm', H', d', ?_, h2⟩
  rw [W_eq]
  simp only [stepS, holes, if_true, ha, List.replicate_zero, List.append_nil]
  have : evOps cfg (enter cfg (W cfg good)) f true ops H.length ops.toList ⟨tm, H, d⟩ = some (.normal, ⟨tm', H', d'⟩, tr) := by rw [← E_eq]; exact h1
  rw [List.nil_append] at h3
  simp [this, h3, good, Ex.isPanic]
theorem stepn {b : Ob} {w : Nat → V} (h : evDsc cfg f o (ov tm) = some (.new b w)) : stepOp f o tm H = some ⟨w H.length, false, H ++ [b], .add⟩ :=
  step_of h (by simp [atPlace, runDsc])
theorem run_new {b : Ob} {w : Nat → V} (hw : Region.wanted o (yld ops tm) = true) (h : evDsc cfg f o (ov tm) = some (.new b w)) {tm1 : Nat → List V} (hp : ∀ m, putTm tm o.dst (w m) = tm1 m)
    (hn : ∀ m H', H.length = m → H'.length = m + 1 → H'[m]? = some b → (∀ j, j < m → H'[j]? = H[j]?) → Steps f ops l (tm1 m) H' d Q) : Steps f ops (o :: l) tm H d Q :=
  run_cons hw (stepn h) (by
    rw [hp]
    exact hn _ _ rfl (by simp) (by simp) fun j hj => List.getElem?_append_left hj)
theorem step_store {t : TypeId} {a x : Operand} {it : TI} {k off : Nat} {cs cs' : List V} {v : V} (ho : o.op = .store t a x) (ha : ov tm a = some (.bp k off)) (hx : ov tm x = some v) (hT : cfg.T t = some it) (hv : v.solid = true) (hl : v.cells.length = it.size)
    (hH : H[k]? = some (.box cs)) (hs : splice cs off v.cells = some cs') : stepOp f o tm H = some ⟨.junk, false, H.set k (.box cs'), .loc k⟩ := by
  refine step_of (D := .upd k (fun | .box cs => (splice cs off v.cells).map .box | _ => none) .junk) ?_ ?_
  · simp only [evDsc, ho, ha, hx, hT, Option.bind_some, storeD, hv, hl]
    rfl
  · simp only [atPlace, runDsc, hH, Option.bind_some, hs, Option.map_some]
theorem get_lt {j : Nat} {b : Ob} (h : H[j]? = some b) : j < H.length := (List.getElem?_eq_some_iff.1 h).1
theorem run_store {t : TypeId} {a x : Operand} {it : TI} {k off : Nat} {cs cs' : List V} {v : V} (hw : Region.wanted o (yld ops tm) = true) (ho : o.op = .store t a x) (ha : ov tm a = some (.bp k off)) (hx : ov tm x = some v) (hT : cfg.T t = some it) (hv : v.solid = true) (hl : v.cells.length = it.size)
    (hH : H[k]? = some (.box cs)) (hs : splice cs off v.cells = some cs') {tm1 : List V} (hp : putTm tm o.dst .junk = tm1)
    (hn : ∀ H', H'.length = H.length → H'[k]? = some (.box cs') → (∀ j, j ≠ k → H'[j]? = H[j]?) → Steps f ops l tm1 H' (k :: d) Q) : Steps f ops (o :: l) tm H d Q :=
  run_cons hw (step_store ho ha hx hT hv hl hH hs) (by
    rw [hp]
    exact hn _ (by simp) (by have := get_lt hH; simp [this]) fun j hj => List.getElem?_set_ne (Ne.symm hj))
theorem runR_store {tr : List (Cls × Nat)} {t : TypeId} {a x : Operand} {it : TI} {k off : Nat} {cs cs' : List V} {v : V} (hw : Region.wanted o (yld ops tm) = true) (ho : o.op = .store t a x) (ha : ov tm a = some (.bp k off)) (hx : ov tm x = some v) (hT : cfg.T t = some it) (hv : v.solid = true) (hl : v.cells.length = it.size)
    (hH : H[k]? = some (.box cs)) (hs : splice cs off v.cells = some cs') {tm1 : List V} (hp : putTm tm o.dst .junk = tm1)
    (hn : ∀ H', H'.length = H.length → H'[k]? = some (.box cs') → (∀ j, j ≠ k → H'[j]? = H[j]?) → StepsR f ops (tr ++ [(.loc k, H.length)]) l tm1 H' (k :: d) Q) : StepsR f ops tr (o :: l) tm H d Q :=
  runR_cons hw (step_store ho ha hx hT hv hl hH hs) (by simp [isAlloc, ho]) (by
    rw [hp]
    exact hn _ (by simp) (by have := get_lt hH; simp [this]) fun j hj => List.getElem?_set_ne (Ne.symm hj))
theorem wp_loop3 {α : Type} (m : Nat) (pre : α → List V) (J : α → Heap → List Nat → Prop) (μ : α → Nat) (a0 : α) (h0 : ∃ tail, tm = pre a0 ++ tail ∧ tail.length = m ∧ J a0 H d)
    (hr : ∀ a H d (u : Nat → V), J a H d → Wp f c (pre a ++ (List.range m).map u) H d fun e tm' H' d' => match e with | .normal => ∃ a' tail, tm' = pre a' ++ tail ∧ tail.length = m ∧ J a' H' d' ∧ μ a' < μ a | e => R e tm' H' d') : Wp f (.loop c) tm H d R := by
  obtain ⟨tail, rfl, hl, hJ⟩ := h0
  have key : ∀ (n : Nat) (a : α) (tail : List V) (H : Heap) (d : List Nat), μ a < n → tail.length = m → J a H d → Wp f (.loop c) (pre a ++ tail) H d R := by
    intro n
    induction n with
    | zero => intro a tail H d hm; omega
    | succ n ih =>
      intro a tail H d hm ht hJ
      have hb := hr a H d (fun k => tail.getD k .junk) hJ
      rw [← ht, ← list_fn tail] at hb
      obtain ⟨ex, tm', H', d', h1, h2⟩ := hb.out
      cases ex with
      | normal =>
        obtain ⟨a', tail', rfl, ht', hJ', hμ⟩ := h2
        obtain ⟨ex, tm2, H2, d2, h3, h4⟩ := (ih a' tail' H' d' (by omega) (by rw [ht', ht]) hJ').out
        exact ⟨ex, tm2, H2, d2, by rw [W_eq]; simp only [stepS, stepE, h1]; exact h3, h4⟩
      | _ => exact ⟨_, tm', H', d', by rw [W_eq]; simp only [stepS, stepE, h1], h2⟩
  exact key (μ a0 + 1) a0 tail H d (Nat.lt_succ_self _) hl hJ
structure FnH (g : FuncId) (args : List V) (H : Heap) (v : V) : Prop where
  out : ∃ r, E g args H = some r ∧ r.pan = false ∧ (∀ j, j ∈ r.d → H.length ≤ j) ∧ strip r.H H.length false sf r.v = some v
def Cf (g : FuncId) (args : List V) (H : Heap) (v : V) : Prop := ∃ k, callF cfg E g args H = some ⟨v, false, H, k⟩ ∧ (k = .pure ∨ k = .pcall)
theorem FnH.call {g : FuncId} {args : List V} {v : V} (h : FnH g args H v) (hg : g ≠ 102) (hk : cfg.keep g = false) (hs : args.mapM (strip H 0 true sf) = none) : callF cfg E g args H = some ⟨v, false, H, .pcall⟩ := by
  obtain ⟨r, h1, h2, h3, h4⟩ := h
  unfold callF
  rw [if_neg (show g ≠ cfg.guard from hg), if_neg (by rw [hk]; simp)]
  have e : r.d.filter (· < H.length) = [] := by
    rw [List.filter_eq_nil_iff]
    intro j hj
    have := h3 j hj
    simp; omega
  simp only [hs, h1, Option.bind_some, e, h4, h2]
theorem FnH.cf {g : FuncId} {args : List V} {v : V} (h : FnH g args H v) (hg : g ≠ 102) (hk : cfg.keep g = false) (hs : args.mapM (strip H 0 true sf) = none) : Cf g args H v := ⟨_, h.call hg hk hs, .inr rfl⟩
theorem Fn.cf {g : FuncId} {args : List V} {v : V} (h : Fn g args v) (hg : g ≠ 102) (hk : cfg.keep g = false) (hf : V.flats args = true) (H : Heap) : Cf g args H v := ⟨_, h.call hg hk hf H, .inl rfl⟩
theorem FnH.fn {g : FuncId} {args : List V} {v : V} (h : FnH g args [] v) : Fn g args v := by
  obtain ⟨r, h1, h2, h3, h4⟩ := h
  exact ⟨r, h1, h2, h4⟩
theorem FnH.of_wp {g : FuncId} {fn : Func} {args : List V} {v : V} (hf : cfg.F g = some fn) (hb : fn.body = some c) (h : Wp g c (args ++ List.replicate (fn.ntmps - args.length) .junk) H [] fun e tm' H' d' => (e = .normal ∨ e = .ret) ∧ ∃ u, results cfg fn ⟨tm', H', d'⟩ = some u ∧ (∀ j, j ∈ d' → H.length ≤ j) ∧ strip H' H.length false sf u = some v) : FnH g args H v := by
  obtain ⟨r, h1, h2⟩ := enter_wp (P := fun r => r.pan = false ∧ (∀ j, j ∈ r.d → H.length ≤ j) ∧ strip r.H H.length false sf r.v = some v) hf hb (h.mono fun e tm H d hq => ⟨hq.1, hq.2.choose, hq.2.choose_spec.1, rfl, hq.2.choose_spec.2.1, hq.2.choose_spec.2.2⟩)
  exact ⟨r, h1, h2.1, h2.2.1, h2.2.2⟩
theorem call_kept {g : FuncId} {args : List V} {r : CR} (hg : g ≠ 102) (hk : cfg.keep g = true) (h : E g args H = some r) (hp : r.pan = false) : callF cfg E g args H = some ⟨r.v, false, r.H, .eff r.d⟩ := by
  rw [call_keep hg hk h, hp]
theorem mapM_none {α β : Type} {g : α → Option β} : ∀ {l : List α} {x : α}, x ∈ l → g x = none → l.mapM g = none
  | y :: l, x, h, hx => by
    rw [List.mapM_cons]
    rcases List.mem_cons.1 h with rfl | h
    · rw [hx]; rfl
    · rw [mapM_none h hx]; cases g y <;> rfl
theorem strip_fn_none {n : Nat} {p : FuncId} {caps : List V} (hf : V.flats caps = false) (h : caps.mapM (strip H 0 true n) = none) : strip H 0 true (n + 1) (.fn p caps) = none := by
  rw [show strip H 0 true (n + 1) (.fn p caps) = (if V.flat (.fn p caps) then some (.fn p caps) else (caps.mapM (strip H 0 true n)).map (.fn p)) from rfl, if_neg (by simp [V.flat, hf]), h]
  rfl
theorem strip_agg {n n0 : Nat} {all : Bool} {cs cs' : List V} (h : cs.mapM (strip H n0 all (n + 1)) = some cs') : strip H n0 all (n + 2) (.agg cs) = some (.agg cs') := by
  rw [show strip H n0 all (n + 2) (.agg cs) = (if V.flat (.agg cs) then some (.agg cs) else (cs.mapM (strip H n0 all (n + 1))).map .agg) from rfl]
  split
  · rename_i hf
    rw [strips_flat (by simpa [V.flat] using hf)] at h
    cases h; rfl
  · rw [h]; rfl
theorem strips_cons {n n0 : Nat} {all : Bool} {v v' : V} {cs cs' : List V} (h : strip H n0 all n v = some v') (h2 : cs.mapM (strip H n0 all n) = some cs') : (v :: cs).mapM (strip H n0 all n) = some (v' :: cs') := by
  rw [List.mapM_cons, h, h2]; rfl
def Rep {α : Type} (enc : α → List V) (k : Nat) (H : Heap) (n0 : Nat) (out : List α) (v : V) : Prop :=
  (v = .sl 0 true [] ∧ out = []) ∨ ∃ t0, n0 ≤ t0 ∧ v = .own t0 0 out.length out.length ∧ H[t0]? = some (.arr k false 0 (rows enc out)) ∧ out ≠ []
def num : V → Option Nat
  | .own t _ _ _ => some t
  | _ => none
def slOf {α : Type} (enc : α → List V) (out : List α) : V := .sl out.length out.isEmpty (rows enc out)
theorem Rep.nil {α : Type} {enc : α → List V} {k n0 : Nat} : Rep enc k H n0 [] (.sl 0 true []) := .inl ⟨rfl, rfl⟩
theorem Rep.solid {α : Type} {enc : α → List V} {k n0 : Nat} {out : List α} {v : V} (h : Rep enc k H n0 out v) : v.solid = true := by
  rcases h with ⟨rfl, _⟩ | ⟨t, _, rfl, _⟩ <;> rfl
theorem Rep.cells {α : Type} {enc : α → List V} {k n0 : Nat} {out : List α} {v : V} (h : Rep enc k H n0 out v) : v.cells = [v] := by
  rcases h with ⟨rfl, _⟩ | ⟨t, _, rfl, _⟩ <;> rfl
theorem Rep.one {α : Type} {enc : α → List V} {k n0 : Nat} {out : List α} {v : V} (h : Rep enc k H n0 out v) : v.one = true := by
  rcases h with ⟨rfl, _⟩ | ⟨t, _, rfl, _⟩ <;> rfl
theorem Rep.heap {α : Type} {enc : α → List V} {k n0 : Nat} {out : List α} {v : V} {H' : Heap} (h : Rep enc k H n0 out v) (hs : ∀ j, num v = some j → H'[j]? = H[j]?) : Rep enc k H' n0 out v := by
  rcases h with h | ⟨t, h0, rfl, h1, h2⟩
  · exact .inl h
  · exact .inr ⟨t, h0, rfl, by rw [hs t rfl]; exact h1, h2⟩
theorem Rep.lt {α : Type} {enc : α → List V} {k n0 : Nat} {out : List α} {v : V} (h : Rep enc k H n0 out v) {j : Nat} (hj : num v = some j) : j < H.length ∧ n0 ≤ j := by
  rcases h with ⟨rfl, _⟩ | ⟨t, h0, rfl, h1, _⟩
  · cases hj
  · cases hj; exact ⟨get_lt h1, h0⟩
theorem Rep.kind {α : Type} {enc : α → List V} {k n0 : Nat} {out : List α} {v : V} (h : Rep enc k H n0 out v) {j : Nat} (hj : num v = some j) : ∃ k st me cs, H[j]? = some (.arr k st me cs) := by
  rcases h with ⟨rfl, _⟩ | ⟨t, h0, rfl, h1, _⟩
  · cases hj
  · cases hj; exact ⟨_, _, _, _, h1⟩
theorem Rep.apart {α : Type} {enc : α → List V} {k n0 : Nat} {out : List α} {v : V} (h : Rep enc k H n0 out v) {j : Nat} {cs : List V} (hj : H[j]? = some (.box cs)) : num v ≠ some j := by
  intro e
  obtain ⟨k, st, me, cs', h2⟩ := h.kind e
  rw [hj] at h2; cases h2
theorem Rep.strips {α : Type} {enc : α → List V} {k n0 m : Nat} {all : Bool} {out : List α} {v : V} (h : Rep enc k H n0 out v) (hk : ∀ x, (enc x).length = k) (hf : ∀ x, V.flats (enc x) = true) : strip H n0 all (m + 2) v = some (slOf enc out) := by
  rcases h with ⟨rfl, rfl⟩ | ⟨t, h0, rfl, h1, h2⟩
  · rfl
  · rw [show strip H n0 all (m + 2) (.own t 0 out.length out.length) = (if V.flat (.own t 0 out.length out.length) then some (.own t 0 out.length out.length) else if t < n0 ∧ all = false then some (.own t 0 out.length out.length) else match H[t]? with
      | some (.arr k st me cs) => if all = true ∧ st = true then none else
        if 0 + out.length ≤ out.length ∧ out.length * k ≤ cs.length ∧ me ≤ out.length then (((cs.drop (0 * k)).take (out.length * k)).mapM (Go.Av.strip H n0 all (m + 1))).map (.sl out.length false) else none
      | _ => none) from rfl]
    rw [if_neg (by simp [V.flat]), if_neg (by omega), h1]
    simp only
    have hl := rows_length hk out
    rw [if_neg (by simp), if_pos ⟨by omega, by omega, Nat.zero_le _⟩, Nat.zero_mul, List.drop_zero, ← hl, List.take_length, strips_flat (flats_rows hf out)]
    unfold slOf
    rw [show out.isEmpty = false by cases out <;> simp at *]
    rfl
theorem rows_append {α : Type} (enc : α → List V) (a b : List α) : rows enc (a ++ b) = rows enc a ++ rows enc b := by simp [rows]
theorem flat_slOf {α : Type} {enc : α → List V} (hf : ∀ x, V.flats (enc x) = true) (out : List α) : (slOf enc out).flat = true := by simp [slOf, V.flat, flats_rows hf]
structure Appended {α : Type} (enc : α → List V) (k : Nat) (H : Heap) (n0 : Nat) (out : List α) (v : V) (H' : Heap) (v' : V) (c : Cls) : Prop where
  rep : Rep enc k H' n0 out v'
  len : H.length ≤ H'.length
  same : ∀ j, j < H.length → num v ≠ some j → H'[j]? = H[j]?
  dirty : ∀ j, j ∈ c.dirty → num v = some j
  nums : num v' = num v ∨ ∃ m, num v' = some m ∧ H.length ≤ m
  cls : c = .add ∨ ∃ t, c = .loc t
theorem append_rep {α : Type} {enc : α → List V} {k n0 : Nat} {out : List α} {v : V} {tt e : TypeId} {it ie : TI} {fid dst : Nat} (hk : ∀ x, (enc x).length = k) (h0 : 0 < k) (hone : ∀ x, (enc x).all V.one = true)
    (hT : cfg.T tt = some it) (hd : it.d = .slice e) (hE : cfg.T e = some ie) (hs : ie.size = k) (hb : ie.bytes ≤ 1000) (hst : cfg.st fid dst = false)
    (hrep : Rep enc k H n0 out v) (new : List α) (hnew : new ≠ []) (hlen : out.length + new.length ≤ 1000000) (hn0 : n0 ≤ H.length) (fl : Bool) (n : Nat) (hnn : n = new.length) :
    ∃ D v' H' c, appendD cfg fid dst tt v (.sl n fl (rows enc new)) = some D ∧ (∀ o : Oper, isAlloc o = false → runDsc cfg E H (atPlace false o 0 D) = some ⟨v', false, H', c⟩) ∧ Appended enc k H n0 (out ++ new) v H' v' c := by
  subst hnn
  obtain ⟨a, b, cc, z, dd⟩ := it
  obtain ⟨a2, b2, c2, z2, d2⟩ := ie
  simp only at hd hs hb
  subst hd hs
  have hpos : 0 < new.length := List.length_pos_iff.2 hnew
  have hmul : (out.length + new.length) * c2 ≤ 1000000 * 1000 := Nat.mul_le_mul hlen hb
  have hall : (rows enc new).all V.one = true := by
    rw [List.all_eq_true]
    intro y hy
    obtain ⟨x, _, hx⟩ := List.mem_flatMap.1 hy
    exact List.all_eq_true.1 (hone x) y hx
  have hrl := rows_length hk new
  have hro := rows_length hk out
  rcases hrep with ⟨rfl, rfl⟩ | ⟨t, ht, rfl, h1, h2⟩
  · simp only [List.length_nil, Nat.zero_add] at hlen hmul
    refine ⟨.new (.arr b2 false 0 ([] ++ rows enc new)) fun id => .own id 0 (0 + new.length) (0 + new.length), .own H.length 0 (0 + new.length) (0 + new.length), H ++ [.arr b2 false 0 ([] ++ rows enc new)], .add, ?_, fun o ho => ?_, ⟨.inr ⟨H.length, hn0, ?_, ?_, ?_⟩, ?_, ?_, ?_, .inr ⟨H.length, rfl, Nat.le_refl _⟩, .inl rfl⟩⟩
    · unfold appendD
      simp only [hT, hE]
      rw [if_neg (by omega), if_neg (by omega), if_pos (by simp only [roomy, List.length_nil, hrl, Nat.zero_add, Nat.zero_mul]; refine ⟨?_, ?_, ?_, ?_⟩ <;> first | omega | trivial | rfl | simp), hst]
    · simp only [atPlace, ho, Bool.and_false, Bool.false_eq_true, if_false, runDsc]
    · simp
    · simp
    · simpa using hnew
    · simp
    · intro j hj _
      exact List.getElem?_append_left hj
    · intro j hj; simp [Cls.dirty] at hj
  · have hlt := get_lt h1
    refine ⟨.upd t (fun | .arr k st me cs => if k = b2 ∧ out.length * k = cs.length ∧ me ≤ out.length then some (.arr k st me (cs ++ rows enc new)) else none | _ => none) (.own t 0 (out.length + new.length) (out.length + new.length)), .own t 0 (out.length + new.length) (out.length + new.length), H.set t (.arr b2 false 0 (rows enc out ++ rows enc new)), .loc t, ?_, fun o ho => ?_, ⟨.inr ⟨t, ht, ?_, ?_, ?_⟩, ?_, ?_, ?_, .inl rfl, .inr ⟨_, rfl⟩⟩⟩
    · unfold appendD
      simp only [hT, hE]
      rw [if_neg (by omega), if_pos (by simp only [roomy, hrl, hall]; refine ⟨?_, ?_, ?_, ?_, ?_, ?_⟩ <;> first | omega | rfl | trivial)]
      rfl
    · simp only [atPlace, runDsc, h1, Option.bind_some]
      rw [if_pos (by refine ⟨?_, ?_, ?_⟩ <;> first | omega | rfl | trivial)]
      rfl
    · simp
    · rw [rows_append]; simp [hlt]
    · simp [hnew]
    · simp
    · intro j hj hne
      exact List.getElem?_set_ne (fun e => hne (by rw [← e]; rfl))
    · intro j hj
      simp [Cls.dirty] at hj
      subst hj; rfl
def RepL {α : Type} (enc : α → List V) (k : Nat) (H : Heap) (out : List α) (v : V) : Prop :=
  v = .sl out.length true (rows enc out) ∨ ∃ t0, v = .own t0 0 out.length out.length ∧ H[t0]? = some (.arr k false 0 (rows enc out))
theorem RepL.strips {α : Type} {enc : α → List V} {k m : Nat} {out : List α} {v : V} (h : RepL enc k H out v) (hk : ∀ x, (enc x).length = k) (hf : ∀ x, V.flats (enc x) = true) : ∃ fl, strip H 0 true (m + 2) v = some (.sl out.length fl (rows enc out)) := by
  rcases h with rfl | ⟨t, rfl, h1⟩
  · exact ⟨true, strip_flat (by simp [V.flat, flats_rows hf])⟩
  · refine ⟨false, ?_⟩
    rw [show strip H 0 true (m + 2) (.own t 0 out.length out.length) = (if V.flat (.own t 0 out.length out.length) then some (.own t 0 out.length out.length) else if t < 0 ∧ true = false then some (.own t 0 out.length out.length) else match H[t]? with
      | some (.arr k st me cs) => if true = true ∧ st = true then none else
        if 0 + out.length ≤ out.length ∧ out.length * k ≤ cs.length ∧ me ≤ out.length then (((cs.drop (0 * k)).take (out.length * k)).mapM (Go.Av.strip H 0 true (m + 1))).map (.sl out.length false) else none
      | _ => none) from rfl]
    rw [if_neg (by simp [V.flat]), if_neg (by omega), h1]
    simp only
    have hl := rows_length hk out
    rw [if_neg (by simp), if_pos ⟨by omega, by omega, Nat.zero_le _⟩, Nat.zero_mul, List.drop_zero, ← hl, List.take_length, strips_flat (flats_rows hf out)]
    rfl
theorem RepL.apart {α : Type} {enc : α → List V} {k : Nat} {out : List α} {v : V} (h : RepL enc k H out v) {j : Nat} {cs : List V} (hj : H[j]? = some (.box cs)) : num v ≠ some j := by
  rcases h with rfl | ⟨t, rfl, h1⟩
  · intro e; cases e
  · intro e; cases e; rw [hj] at h1; cases h1
theorem append_repL {α : Type} {enc : α → List V} {k : Nat} {out : List α} {v : V} {tt e : TypeId} {it ie : TI} {fid dst : Nat} (hk : ∀ x, (enc x).length = k) (h0 : 0 < k) (hone : ∀ x, (enc x).all V.one = true)
    (hT : cfg.T tt = some it) (hd : it.d = .slice e) (hE : cfg.T e = some ie) (hs : ie.size = k) (hb : ie.bytes ≤ 1000) (hst : cfg.st fid dst = false)
    (hrep : RepL enc k H out v) (new : List α) (hnew : new ≠ []) (hlen : out.length + new.length ≤ 1000000) (fl : Bool) (n : Nat) (hnn : n = new.length) :
    ∃ D v' H' c, appendD cfg fid dst tt v (.sl n fl (rows enc new)) = some D ∧ (∀ o : Oper, isAlloc o = false → runDsc cfg E H (atPlace false o 0 D) = some ⟨v', false, H', c⟩) ∧ RepL enc k H' (out ++ new) v' ∧ (∀ j, j < H.length → num v ≠ some j → H'[j]? = H[j]?) := by
  subst hnn
  obtain ⟨a, b, cc, z, dd⟩ := it
  obtain ⟨a2, b2, c2, z2, d2⟩ := ie
  simp only at hd hs hb
  subst hd hs
  have hpos : 0 < new.length := List.length_pos_iff.2 hnew
  have hmul : (out.length + new.length) * c2 ≤ 1000000 * 1000 := Nat.mul_le_mul hlen hb
  have hall : (rows enc new).all V.one = true := by
    rw [List.all_eq_true]
    intro y hy
    obtain ⟨x, _, hx⟩ := List.mem_flatMap.1 hy
    exact List.all_eq_true.1 (hone x) y hx
  have hrl := rows_length hk new
  have hro := rows_length hk out
  rcases hrep with rfl | ⟨t, rfl, h1⟩
  · refine ⟨.new (.arr b2 false 0 (rows enc out ++ rows enc new)) fun id => .own id 0 (out.length + new.length) (out.length + new.length), .own H.length 0 (out.length + new.length) (out.length + new.length), H ++ [.arr b2 false 0 (rows enc out ++ rows enc new)], .add, ?_, fun o ho => ?_, .inr ⟨H.length, ?_, ?_⟩, ?_⟩
    · unfold appendD
      simp only [hT, hE]
      rw [if_neg (by omega), if_neg (by omega), if_pos (by simp only [roomy, hrl, hro]; refine ⟨?_, ?_, ?_, ?_⟩ <;> first | omega | trivial | rfl | simp), hst]
    · simp only [atPlace, ho, Bool.and_false, Bool.false_eq_true, if_false, runDsc]
    · simp
    · rw [rows_append]; simp
    · intro j hj _
      exact List.getElem?_append_left hj
  · have hlt := get_lt h1
    refine ⟨.upd t (fun | .arr k st me cs => if k = b2 ∧ out.length * k = cs.length ∧ me ≤ out.length then some (.arr k st me (cs ++ rows enc new)) else none | _ => none) (.own t 0 (out.length + new.length) (out.length + new.length)), .own t 0 (out.length + new.length) (out.length + new.length), H.set t (.arr b2 false 0 (rows enc out ++ rows enc new)), .loc t, ?_, fun o ho => ?_, .inr ⟨t, ?_, ?_⟩, ?_⟩
    · unfold appendD
      simp only [hT, hE]
      rw [if_neg (by omega), if_pos (by simp only [roomy, hrl, hall]; refine ⟨?_, ?_, ?_, ?_, ?_, ?_⟩ <;> first | omega | rfl | trivial)]
      rfl
    · simp only [atPlace, runDsc, h1, Option.bind_some]
      rw [if_pos (by refine ⟨?_, ?_, ?_⟩ <;> first | omega | rfl | trivial)]
      rfl
    · simp
    · rw [rows_append]; simp [hlt]
    · intro j hj hne
      exact List.getElem?_set_ne (fun e => hne (by rw [← e]; rfl))
theorem results_cell {fn : Func} {a : Tmp} {t : TypeId} {it : TI} {k off : Nat} {cs : List V} {v : V} (hr : fn.results.toList = [.cell a t]) (hT : cfg.T t = some it) (ha : tm[a]? = some (.bp k off)) (hH : H[k]? = some (.box cs)) (hp : part it cs off = some v) : results cfg fn ⟨tm, H, d⟩ = some v := by
  unfold results
  rw [hr]
  simp only [readRes, hT, ha, Option.bind_some, partH, loadD]; rw [hH]; exact hp
/-! short names for the steps -/
theorem zR {tr : List (Cls × Nat)} {v : V} {H1 : Heap} {k : Cls} {tm1 : List V} (hn : StepsR f ops (tr ++ [(k, H.length)]) l tm1 H1 (k.dirty ++ d) Q) (he : easy o = true := by exact rfl) (hw : Region.wanted o (yld ops tm) = true := by exact rfl) (h : stepOp f o tm H = some ⟨v, false, H1, k⟩ := by exact rfl) (ha : isAlloc o = false := by exact rfl) (hp : putTm tm o.dst v = tm1 := by dsimp only [putTm, List.set]): StepsR f ops tr (o :: l) tm H d Q := runR_easy he hw h ha hp hn
theorem zS {tr : List (Cls × Nat)} {tm1 : List V} (hn : StepsR f ops (tr ++ [(.pure, H.length)]) l tm1 H d Q) (hw : Region.wanted o (yld ops tm) = false := by exact rfl) (hp : putTm tm o.dst .junk = tm1 := by dsimp only [putTm, List.set]): StepsR f ops tr (o :: l) tm H d Q := runR_pass hw hp hn
theorem zH {tr : List (Cls × Nat)} {v : V} {H1 : Heap} {k : Cls} {tm1 : List V} (h : stepOp f o tm H = some ⟨v, false, H1, k⟩) (hn : StepsR f ops (tr ++ [(k, H.length)]) l tm1 H1 (k.dirty ++ d) Q) (hw : Region.wanted o (yld ops tm) = true := by exact rfl) (ha : isAlloc o = false := by exact rfl) (hp : putTm tm o.dst v = tm1 := by dsimp only [putTm, List.set]) : StepsR f ops tr (o :: l) tm H d Q := runR_next hw h ha hp hn
theorem wR {tr : List (Cls × Nat)} (h : Q tm H d) (ht : okDraw ops tr false = true := by kernel_rfl) : StepsR f ops tr [] tm H d Q := runR_nil ht h
theorem wE {i : Nat} (h : StepsR f ops [] ops.toList tm H d (R .normal)) (ha : (ops.toList.filter isAlloc).length = 0 := by exact rfl): Wp f (.region i ops true) tm H d R := wp_drawR ha h
theorem zL {t : TypeId} {x : Operand} {it : TI} {k off : Nat} {cs : List V} {v : V} {tm1 : List V} (hH : H[k]? = some (.box cs)) (hn : Steps f ops l tm1 H d Q) (hw : Region.wanted o (yld ops tm) = true := by exact rfl) (ho : o.op = .load t x := by exact rfl) (hx : ov tm x = some (.bp k off) := by exact rfl) (hT : cfg.T t = some it := by exact rfl) (hpt : part it cs off = some v := by exact rfl) (hp : putTm tm o.dst v = tm1 := by dsimp only [putTm, List.set]): Steps f ops (o :: l) tm H d Q := run_next hw (step_load ho hx hT hH hpt) hp hn
theorem zM {t : TypeId} {x : Operand} {it : TI} {k off : Nat} {cs : List V} {v : V} {tm1 : List V} (hH : H[k]? = some (.box cs)) (hn : StepsD f ops l tm1 H d Q) (hw : Region.wanted o (yld ops tm) = true := by exact rfl) (ho : o.op = .load t x := by exact rfl) (hx : ov tm x = some (.bp k off) := by exact rfl) (hT : cfg.T t = some it := by exact rfl) (hpt : part it cs off = some v := by exact rfl) (ha : isAlloc o = false := by exact rfl) (hk : Cls.still (Cls.reads k, 0) = true := by exact rfl) (hp : putTm tm o.dst v = tm1 := by dsimp only [putTm, List.set]): StepsD f ops (o :: l) tm H d Q := runD_next hw (step_load ho hx hT hH hpt) ha hk hp hn
theorem zO {tr : List (Cls × Nat)} {t : TypeId} {x : Operand} {it : TI} {k off : Nat} {cs : List V} {v : V} {tm1 : List V} (hH : H[k]? = some (.box cs)) (hn : StepsR f ops (tr ++ [(.reads k, H.length)]) l tm1 H d Q) (hw : Region.wanted o (yld ops tm) = true := by exact rfl) (ho : o.op = .load t x := by exact rfl) (hx : ov tm x = some (.bp k off) := by exact rfl) (hT : cfg.T t = some it := by exact rfl) (hpt : part it cs off = some v := by exact rfl) (ha : isAlloc o = false := by exact rfl) (hp : putTm tm o.dst v = tm1 := by dsimp only [putTm, List.set]): StepsR f ops tr (o :: l) tm H d Q := runR_next hw (step_load ho hx hT hH hpt) ha hp hn
end Go.Av
namespace Go.Av
variable {f : FuncId} {ops : Array Oper} {o : Oper} {l : List Oper} {tm : List V} {H : Heap} {d : List Nat} {Q : List V → Heap → List Nat → Prop} {R : Ex → List V → Heap → List Nat → Prop} {c c2 : Code}
structure StepsI (f : FuncId) (ops : Array Oper) (tr : List (Cls × Nat)) (id : Nat) (l : List Oper) (tm : List V) (H : Heap) (d : List Nat) (Q : List V → Heap → List Nat → Prop) : Prop where
  out : ∃ tm' H' d' tr', evOps cfg E f true ops id l ⟨tm, H, d⟩ = some (.normal, ⟨tm', H', d'⟩, tr') ∧ okDraw ops (tr ++ tr') false = true ∧ Q tm' H' d'
variable {tr : List (Cls × Nat)} {id : Nat}
theorem runI_nil (ht : okDraw ops tr false = true) (h : Q tm H d) : StepsI f ops tr id [] tm H d Q := ⟨⟨tm, H, d, [], rfl, by rw [List.append_nil]; exact ht, h⟩⟩
theorem runI_next (hw : Region.wanted o (yld ops tm) = true) {v : V} {H1 : Heap} {k : Cls} (h : stepOp f o tm H = some ⟨v, false, H1, k⟩) (ha : isAlloc o = false)
    {tm1 : List V} (hp : putTm tm o.dst v = tm1) (hn : StepsI f ops (tr ++ [(k, H.length)]) id l tm1 H1 (k.dirty ++ d) Q) : StepsI f ops tr id (o :: l) tm H d Q := by
  obtain ⟨tm', H', d', tr', h1, h3, h2⟩ := hn.out
  refine ⟨⟨tm', H', d', (k, H.length) :: tr', ?_, by simpa using h3, h2⟩⟩
  have he : (evDsc cfg f o (ov tm)).bind (fun d => runDsc cfg E H (atPlace true o id d)) = some ⟨v, false, H1, k⟩ := by
    rw [← h]
    unfold stepOp
    congr 1
    funext d
    cases d <;> simp [atPlace, ha]
  rw [evOps, if_pos hw]
  simp only [he, Bool.false_eq_true, if_false, hp, ha, h1, Option.map_some]
theorem runI_easy (he : easy o = true) (hw : Region.wanted o (yld ops tm) = true) (ha : isAlloc o = false) {v : V} {H1 : Heap} {k : Cls} (h : stepOp f o tm H = some ⟨v, false, H1, k⟩)
    {tm1 : List V} (hp : putTm tm o.dst v = tm1) (hn : StepsI f ops (tr ++ [(k, H.length)]) id l tm1 H1 (k.dirty ++ d) Q) : StepsI f ops tr id (o :: l) tm H d Q := runI_next hw h ha hp hn
theorem runI_pass (hw : Region.wanted o (yld ops tm) = false) (ha : isAlloc o = false) {tm1 : List V} (hp : putTm tm o.dst .junk = tm1) (hn : StepsI f ops (tr ++ [(.pure, H.length)]) id l tm1 H d Q) : StepsI f ops tr id (o :: l) tm H d Q := by
  obtain ⟨tm', H', d', tr', h1, h3, h2⟩ := hn.out
  refine ⟨⟨tm', H', d', (.pure, H.length) :: tr', ?_, by simpa using h3, h2⟩⟩
  rw [evOps, if_neg (by rw [hw]; simp)]
  simp only [hp, ha, Bool.false_eq_true, if_false, h1, Option.map_some]
theorem runI_alloc (ha : isAlloc o = true) (hw : Region.wanted o (yld ops tm) = true) {b : Ob} {w : Nat → V} (h : evDsc cfg f o (ov tm) = some (.new b w)) (hh : H[id]? = some .hole)
    {tm1 : List V} (hp : putTm tm o.dst (w id) = tm1) (hn : StepsI f ops (tr ++ [(.loc id, H.length)]) (id + 1) l tm1 (H.set id b) (id :: d) Q) : StepsI f ops tr id (o :: l) tm H d Q := by
  obtain ⟨tm', H', d', tr', h1, h3, h2⟩ := hn.out
  refine ⟨⟨tm', H', d', (.loc id, H.length) :: tr', ?_, by simpa using h3, h2⟩⟩
  have he : (evDsc cfg f o (ov tm)).bind (fun d => runDsc cfg E H (atPlace true o id d)) = some ⟨w id, false, H.set id b, .loc id⟩ := by
    rw [h]
    simp only [Option.bind_some, atPlace, ha, Bool.and_self, if_true, runDsc, hh, Option.map_some]
  rw [evOps, if_pos hw]
  simp only [he, Bool.false_eq_true, if_false, hp, ha, if_true, Cls.dirty, List.singleton_append, h1, Option.map_some]
theorem wp_drawI {i : Nat} {H1 : Heap} (hH : holes true ops H = H1) (h : StepsI f ops [] H.length ops.toList tm H1 d (R .normal)) : Wp f (.region i ops true) tm H d R := by
  obtain ⟨tm', H', d', tr, h1, h3, h2⟩ := h.out
  refine ⟨.normal, tm', H', d', ?_, h2⟩
  rw [W_eq]
  simp only [stepS]
  rw [hH]
  have : evOps cfg (enter cfg (W cfg good)) f true ops H.length ops.toList ⟨tm, H1, d⟩ = some (.normal, ⟨tm', H', d'⟩, tr) := by rw [← E_eq]; exact h1
  rw [List.nil_append] at h3
  simp [this, h3, good, Ex.isPanic]
/-! short names for the steps -/
theorem zI {v : V} {H1 : Heap} {k : Cls} {tm1 : List V} (hn : StepsI f ops (tr ++ [(k, H.length)]) id l tm1 H1 (k.dirty ++ d) Q) (he : easy o = true := by exact rfl) (hw : Region.wanted o (yld ops tm) = true := by exact rfl) (ha : isAlloc o = false := by exact rfl) (h : stepOp f o tm H = some ⟨v, false, H1, k⟩ := by exact rfl) (hp : putTm tm o.dst v = tm1 := by dsimp only [putTm, List.set]): StepsI f ops tr id (o :: l) tm H d Q := runI_easy he hw ha h hp hn
theorem zJ {tm1 : List V} (hn : StepsI f ops (tr ++ [(.pure, H.length)]) id l tm1 H d Q) (hw : Region.wanted o (yld ops tm) = false := by exact rfl) (ha : isAlloc o = false := by exact rfl) (hp : putTm tm o.dst .junk = tm1 := by dsimp only [putTm, List.set]): StepsI f ops tr id (o :: l) tm H d Q := runI_pass hw ha hp hn
theorem zA {b : Ob} {w : Nat → V} {tm1 : List V} (hn : StepsI f ops (tr ++ [(.loc id, H.length)]) (id + 1) l tm1 (H.set id b) (id :: d) Q) (ha : isAlloc o = true := by exact rfl) (hw : Region.wanted o (yld ops tm) = true := by exact rfl) (h : evDsc cfg f o (ov tm) = some (.new b w) := by exact rfl) (hh : H[id]? = some .hole := by exact rfl) (hp : putTm tm o.dst (w id) = tm1 := by dsimp only [putTm, List.set]): StepsI f ops tr id (o :: l) tm H d Q := runI_alloc ha hw h hh hp hn
theorem wJ (h : Q tm H d) (ht : okDraw ops tr false = true := by kernel_rfl) : StepsI f ops tr id [] tm H d Q := runI_nil ht h
theorem wI {i : Nat} {H1 : Heap} (h : StepsI f ops [] H.length ops.toList tm H1 d (R .normal)) (hH : holes true ops H = H1 := by exact rfl): Wp f (.region i ops true) tm H d R := wp_drawI hH h
end Go.Av
