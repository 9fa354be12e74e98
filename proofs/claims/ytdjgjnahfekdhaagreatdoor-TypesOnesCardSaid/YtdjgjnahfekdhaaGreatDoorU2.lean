/- Contracts over the evaluator: keys, sets, signatures. Conditions: none beyond the hypotheses of each theorem. -/
import Derived.Test.YtdjgjnahfekdhaaGreatDoorU1
set_option linter.unusedSectionVars false
set_option linter.unusedVariables false
set_option linter.unusedSimpArgs false
namespace Go.Av
open Go.Proofs
set_option maxRecDepth 100000
theorem step_cat {f : FuncId} {o : Oper} {tm : List V} {H : Heap} {t : TypeId} {x y : Operand} {k : TypeId} {a b : ByteArray} (ho : o.op = .binOp .add t x y k) (hx : ov tm x = some (.str a)) (hy : ov tm y = some (.str b)) (hs : a.size + b.size ≤ 1000000) : stepOp f o tm H = some ⟨.str (a ++ b), false, H, .pure⟩ := by
  refine step_val ?_
  simp only [evDsc, ho, hx, hy, Option.bind_some, binOp]
  rw [if_pos (by simp only [roomy]; omega)]
  rfl
theorem step_idxo {f : FuncId} {o : Oper} {tm : List V} {H : Heap} {t e : TypeId} {x j : Operand} {kk : IntKind} {n : Int} {t0 len : Nat} {cs : List V} {it ie : TI} (ho : o.op = .indexAddr t x j) (hT : cfg.T t = some it) (hd : it.d = .slice e) (hE : cfg.T e = some ie)
    (hj : ov tm j = some (.int kk n)) (hx : ov tm x = some (.own t0 0 len len)) (h0 : 0 ≤ n ∧ n < len) (hH : H[t0]? = some (.arr ie.size false 0 cs)) : stepOp f o tm H = some ⟨.ap t0 (n.toNat * ie.size) len, false, H, .reads t0⟩ := by
  obtain ⟨a, b, c, z, dd⟩ := it
  simp only at hd
  subst hd
  refine step_of (D := .read t0 fun | .arr k _ me _ => if k = ie.size ∧ me ≤ len then some (.ap t0 ((0 + n.toNat) * ie.size) len) else none | _ => none) ?_ ?_
  · simp only [evDsc, ho, hT, hE, hj, hx, Option.bind_some]
    rw [if_pos ⟨h0.1, h0.2, by omega⟩]
    rfl
  · simp only [atPlace, runDsc, hH, Option.bind_some]
    rw [if_pos ⟨trivial, Nat.zero_le _⟩, Nat.zero_add]
    rfl
theorem step_loada {f : FuncId} {o : Oper} {tm : List V} {H : Heap} {t : TypeId} {x : Operand} {it : TI} {t0 off fin k : Nat} {cs : List V} {v : V} (ho : o.op = .load t x) (hx : ov tm x = some (.ap t0 off fin)) (hT : cfg.T t = some it) (hH : H[t0]? = some (.arr k false 0 cs)) (hl : off + it.size ≤ fin * k ∧ fin * k ≤ cs.length) (hp : part it cs off = some v) :
    stepOp f o tm H = some ⟨v, false, H, .reads t0⟩ := by
  refine step_of (D := .read t0 fun | .arr k _ me cs => if off + it.size ≤ fin * k ∧ fin * k ≤ cs.length ∧ me ≤ fin then part it cs off else none | _ => none) ?_ ?_
  · simp only [evDsc, ho, hx, hT, Option.bind_some, loadD]
    rfl
  · simp only [atPlace, runDsc, hH, Option.bind_some]
    rw [if_pos ⟨hl.1, hl.2, Nat.zero_le _⟩, hp]
    rfl
theorem ints_at {l : List Int} {i : Nat} {x : Int} (h : l[i]? = some x) : part ⟨false, 1, 8, [.int .i64 0], .int .i64⟩ (rows intV l) (((i : Nat) : Int).toNat * 1) = some (.int .i64 x) := by
  have hl := (List.getElem?_eq_some_iff.1 h).1
  have hr : (rows intV l)[i]? = some (.int .i64 x) := by
    have := rows_drop (enc := intV) (k := 1) (fun _ => rfl) l i h
    rw [Nat.mul_one] at this
    have h2 : ((rows intV l).drop i)[0]? = some (V.int .i64 x) := by rw [this]; rfl
    rw [List.getElem?_drop] at h2
    exact h2
  unfold part
  rw [if_pos (by rw [rows_length (k := 1) (enc := intV) (fun _ => rfl)]; simp; omega), if_neg (by decide), if_pos rfl, Int.toNat_natCast, Nat.mul_one]
  exact hr
abbrev u8V (b : UInt8) : List V := [.int .u8 b.toNat]
theorem strCells_rows (s : ByteArray) : strCells s = rows u8V s.data.toList := by
  unfold strCells rows
  induction s.data.toList with
  | nil => rfl
  | cons x l ih => rw [List.map_cons, List.flatMap_cons, ih]; rfl
theorem cellsStr_rows : ∀ l : List UInt8, cellsStr (rows u8V l) = some l
  | [] => rfl
  | b :: l => by
    rw [rows_cons, show u8V b ++ rows u8V l = .int .u8 (b.toNat : Int) :: rows u8V l from rfl, cellsStr, cellsStr_rows l]
    simp
def toB (x : Int) : UInt8 := UInt8.ofNat (x % 256).toNat
theorem toB_wrap (x : Int) : IntKind.u8.wrap x = ((toB x).toNat : Int) := by
  have h : IntKind.u8.wrap x = x % 256 := by simp [IntKind.wrap, IntKind.bits, IntKind.signed]
  rw [h]
  have h1 : 0 ≤ x % 256 := Int.emod_nonneg _ (by decide)
  have h2 : x % 256 < 256 := Int.emod_lt_of_pos _ (by decide)
  unfold toB
  rw [UInt8.toNat_ofNat']
  omega
def keyO (o : O) : List UInt8 := (o.name.data.toList ++ [40]) ++ (o.args ++ [o.res]).map toB
theorem step_str {f : FuncId} {o : Oper} {tm : List V} {H : Heap} {x : Operand} {n0 : Nat} {out : List UInt8} {v : V} {s d : TypeId} (ho : o.op = .convert s d x) (hs : s = 259) (hd : d = 9) (hx : ov tm x = some v) (h : Rep u8V 1 H n0 out v) (hne : out ≠ []) : stepOp f o tm H = some ⟨.str ⟨out.toArray⟩, false, H, .reads ((num v).getD 0)⟩ := by
  subst hs hd
  rcases h with ⟨rfl, rfl⟩ | ⟨t0, _, rfl, h1, _⟩
  · exact absurd rfl hne
  · refine step_of (D := .read t0 fun o => (arrCells 0 out.length out.length o).bind fun p => if p.1 = 1 ∧ p.2.length = out.length then (cellsStr p.2).map fun l => .str ⟨l.toArray⟩ else none) ?_ ?_
    · simp only [evDsc, ho]
      rw [show cfg.T 259 = some ti259 from rfl, show cfg.T 9 = some ti9 from rfl]
      simp only [Option.bind_some, hx]
      rfl
    · have hl := rows_length (enc := u8V) (k := 1) (fun _ => rfl) out
      simp only [atPlace, runDsc, h1, Option.bind_some, arrCells]
      rw [if_pos ⟨by omega, by omega, Nat.zero_le _⟩]
      simp only [Option.bind_some, Nat.zero_mul, List.drop_zero]
      rw [← hl, List.take_length, if_pos (by rw [hl]; simp), cellsStr_rows]
      rfl
theorem StepsR.cut {f : FuncId} {ops : Array Oper} {tr : List (Cls × Nat)} {l : List Oper} {tm : List V} {H : Heap} {d : List Nat} {Q P : List V → Heap → List Nat → Prop} (h : StepsR f ops tr l tm H d P) (hq : ∀ tm H d, P tm H d → Q tm H d) : StepsR f ops tr l tm H d Q := by
  refine ⟨fun id => ?_⟩
  obtain ⟨tm', H', d', tr', h1, h2, h3⟩ := h.out id
  exact ⟨tm', H', d', tr', h1, h2, hq _ _ _ h3⟩
theorem clone_cons {l : List Int} {f : Bool} (h : l ≠ []) (hl : l.length ≤ 1000) : primClone isI 8 [.sl l.length f (rows intV l)] = some (.new (.arr 1 false 0 (rows intV l)) fun id => .own id 0 l.length l.length) := by
  have hpos : 0 < l.length := List.length_pos_iff.2 h
  have hrl := rows_length (enc := intV) (k := 1) (fun _ => rfl) l
  have hall : (rows intV l).all isI = true := by
    rw [List.all_eq_true]
    intro y hy
    obtain ⟨x, _, hx⟩ := List.mem_flatMap.1 hy
    simp at hx; subst hx; rfl
  unfold primClone
  simp only
  rw [if_neg (by omega), if_pos ⟨by omega, by omega, hall⟩]
theorem F181 : cfg.F 181 = some Tryz.f181 := rfl
set_option maxHeartbeats 8000000 in
theorem key_fn (o : O) (hs : o.name.size ≤ 100) (hl : o.args.length ≤ 100) : Fn 181 [.agg (oV o)] (.str ⟨(keyO o).toArray⟩) := by
  refine Fn.of_wp F181 rfl ?_
  simp only [show Tryz.f181.ntmps = 30 from rfl, List.length_cons, List.length_nil, List.replicate, List.cons_append, List.nil_append]
  repeat (first | refine zE ?_ | refine zP ?_ | refine zD ?_ | refine zQ ?_ | refine zR ?_ | refine zS ?_ | refine wN ?_ | refine wM ?_ | refine wR ?_ | refine wS ?_ | refine wB ?_ | refine wG ?_ | refine wD ?_ | refine wY ?_ | refine wZ ?_ | refine wK ?_ | refine wT ?_ | refine wX ?_)
  refine zF (step_cat rfl rfl rfl (by show o.name.size + 1 ≤ 1000000; omega)) ?_
  refine zF (stepn rfl) ?_
  repeat (first | refine zE ?_ | refine zP ?_ | refine zD ?_ | refine zQ ?_ | refine zR ?_ | refine zS ?_ | refine wN ?_ | refine wM ?_ | refine wR ?_ | refine wS ?_ | refine wB ?_ | refine wG ?_ | refine wE ?_ | refine wY ?_ | refine wZ ?_ | refine wK ?_ | refine wT ?_ | refine wX ?_)
  refine StepsR.cut (P := fun tm H d => ∃ a6 a7 a8 a9 a10 a11 a12 a13 a14 a15 : V, ∃ t0 : Nat, tm = [.agg (oV o), .bp 0 0, .str ⟨#[]⟩, .own 1 0 (o.name ++ ⟨#[40]⟩).size (o.name ++ ⟨#[40]⟩).size, .junk, .junk, a6, a7, a8, a9, a10, a11, a12, a13, a14, a15, .own t0 0 (o.args ++ [o.res]).length (o.args ++ [o.res]).length, .int .i64 ((o.args ++ [o.res]).length : Int), .int .i64 0, .junk, .junk, .junk, .junk, .junk, .junk, .junk, .junk, .junk, .junk, .junk] ∧ H[t0]? = some (.arr 1 false 0 (rows intV (o.args ++ [o.res]))) ∧ t0 ≠ 1 ∧ H[1]? = some (.arr 1 false 0 (strCells (o.name ++ ⟨#[40]⟩)))) ?_ ?_
  · by_cases hnil : o.args = []
    · refine zH (step_val (v := .sl 0 true []) (by show primClone isI 8 [.sl o.args.length o.fa (rows intV o.args)] = _; rw [hnil]; rfl)) ?_
      repeat (first | refine zE ?_ | refine zP ?_ | refine zD ?_ | refine zQ ?_ | refine zR ?_ | refine zS ?_ | refine wN ?_ | refine wM ?_ | refine wR ?_ | refine wS ?_ | refine wB ?_ | refine wG ?_ | refine wE ?_ | refine wY ?_ | refine wZ ?_ | refine wK ?_ | refine wT ?_ | refine wX ?_)
      have hrep : Rep intV 1 [.box (oV o), .arr 1 false 0 (strCells (o.name ++ ⟨#[40]⟩))] 0 o.args (.sl 0 true []) := .inl ⟨rfl, hnil⟩
      obtain ⟨D, v', H', c, hD, hr, ha⟩ := append_rep (fid := 181) (dst := 16) (tt := 27) intV_len (by decide) intV_one rfl rfl rfl rfl (by decide) rfl hrep [o.res] (by simp) (by simp; omega) (Nat.zero_le _) true 1 rfl
      obtain ⟨t0, rfl, ht0⟩ : ∃ t0, v' = .own t0 0 (o.args ++ [o.res]).length (o.args ++ [o.res]).length ∧ H'[t0]? = some (.arr 1 false 0 (rows intV (o.args ++ [o.res]))) := by
        rcases ha.rep with ⟨_, h⟩ | ⟨t0, _, h, h1, _⟩
        · simp at h
        · exact ⟨t0, h, h1⟩
      have hcls := ha.cls
      refine zH (step_append rfl rfl rfl rfl hD (hr _ rfl)) ?_
      repeat (first | refine zE ?_ | refine zP ?_ | refine zD ?_ | refine zQ ?_ | refine zR ?_ | refine zS ?_ | refine wN ?_ | refine wM ?_ | refine wS ?_ | refine wB ?_ | refine wG ?_ | refine wE ?_ | refine wY ?_ | refine wZ ?_ | refine wK ?_ | refine wT ?_ | refine wX ?_)
      refine runR_nil (by rcases hcls with rfl | ⟨t, rfl⟩ <;> kernel_rfl) ?_
      have hne : t0 ≠ 1 := by
        rcases ha.nums with h | ⟨m, h, hm⟩
        · cases h
        · cases h; simp at hm; omega
      exact ⟨_, _, _, _, _, _, _, _, _, _, t0, rfl, ht0, hne, by rw [ha.same 1 (by simp) (by simp [num])]; rfl⟩
    · refine zH (stepn (by show primClone isI 8 [.sl o.args.length o.fa (rows intV o.args)] = _; exact clone_cons hnil (by omega))) ?_
      repeat (first | refine zE ?_ | refine zP ?_ | refine zD ?_ | refine zQ ?_ | refine zR ?_ | refine zS ?_ | refine wN ?_ | refine wM ?_ | refine wR ?_ | refine wS ?_ | refine wB ?_ | refine wG ?_ | refine wE ?_ | refine wY ?_ | refine wZ ?_ | refine wK ?_ | refine wT ?_ | refine wX ?_)
      have hrep : Rep intV 1 [.box (oV o), .arr 1 false 0 (strCells (o.name ++ ⟨#[40]⟩)), .arr 1 false 0 (rows intV o.args)] 0 o.args (.own 2 0 o.args.length o.args.length) := .inr ⟨2, by omega, rfl, rfl, hnil⟩
      obtain ⟨D, v', H', c, hD, hr, ha⟩ := append_rep (fid := 181) (dst := 16) (tt := 27) intV_len (by decide) intV_one rfl rfl rfl rfl (by decide) rfl hrep [o.res] (by simp) (by simp; omega) (Nat.zero_le _) true 1 rfl
      obtain ⟨t0, rfl, ht0⟩ : ∃ t0, v' = .own t0 0 (o.args ++ [o.res]).length (o.args ++ [o.res]).length ∧ H'[t0]? = some (.arr 1 false 0 (rows intV (o.args ++ [o.res]))) := by
        rcases ha.rep with ⟨_, h⟩ | ⟨t0, _, h, h1, _⟩
        · simp at h
        · exact ⟨t0, h, h1⟩
      have hcls := ha.cls
      refine zH (step_append rfl rfl rfl rfl hD (hr _ rfl)) ?_
      repeat (first | refine zE ?_ | refine zP ?_ | refine zD ?_ | refine zQ ?_ | refine zR ?_ | refine zS ?_ | refine wN ?_ | refine wM ?_ | refine wS ?_ | refine wB ?_ | refine wG ?_ | refine wE ?_ | refine wY ?_ | refine wZ ?_ | refine wK ?_ | refine wT ?_ | refine wX ?_)
      refine runR_nil (by rcases hcls with rfl | ⟨t, rfl⟩ <;> kernel_rfl) ?_
      have hne : t0 ≠ 1 := by
        rcases ha.nums with h | ⟨m, h, hm⟩
        · simp [num] at h; omega
        · cases h; simp at hm; omega
      exact ⟨_, _, _, _, _, _, _, _, _, _, t0, rfl, ht0, hne, by rw [ha.same 1 (by simp) (by simp [num])]; rfl⟩
  rintro tm H d ⟨a6, a7, a8, a9, a10, a11, a12, a13, a14, a15, t0, rfl, ht0, hne, hb1⟩
  have hsz : (o.name ++ ⟨#[40]⟩).size = (o.name.data.toList ++ [40]).length := by simp [ByteArray.size_append]; rfl
  have hrows : strCells (o.name ++ ⟨#[40]⟩) = rows u8V (o.name.data.toList ++ [40]) := by rw [strCells_rows]; congr 1 <;> simp
  rw [hrows] at hb1
  rw [hsz]
  have hnl : (o.name.data.toList ++ [40]).length ≤ 101 := by simp; omega
  have hal : (o.args ++ [o.res]).length ≤ 101 := by simp; omega
  generalize hal2 : o.args ++ [o.res] = al at *
  generalize hnl2 : o.name.data.toList ++ [40] = nl at *
  have hnne : nl ≠ [] := by rw [← hnl2]; simp
  repeat (first | refine zE ?_ | refine zP ?_ | refine zD ?_ | refine zQ ?_ | refine zR ?_ | refine zS ?_ | refine wN ?_ | refine wM ?_ | refine wR ?_ | refine wS ?_ | refine wB ?_ | refine wG ?_ | refine wD ?_ | refine wY ?_ | refine wZ ?_ | refine wK ?_ | refine wT ?_ | refine wX ?_)
  refine wp_loop2 11 (fun a : Nat × V × V => [.agg (oV o), .bp 0 0, .str ⟨#[]⟩, a.2.1, .junk, a.2.2, a6, a7, a8, a9, a10, a11, a12, a13, a14, a15, .own t0 0 al.length al.length, .int .i64 (al.length : Int), .int .i64 (a.1 : Int)]) (fun a H => a.1 ≤ al.length ∧ H[t0]? = some (.arr 1 false 0 (rows intV al)) ∧ Rep u8V 1 H 0 (nl ++ (al.take a.1).map toB) a.2.1 ∧ num a.2.1 ≠ some t0) (fun a => al.length - a.1) (0, .own 1 0 nl.length nl.length, .junk) ⟨_, rfl, rfl, Nat.zero_le _, ht0, .inr ⟨1, Nat.zero_le _, by simp, by simpa using hb1, by simpa using hnne⟩, by simp [num]; omega⟩ ?_
  rintro ⟨i, v3, v5⟩ H d u ⟨hi, ht0, hrep, hap⟩
  dsimp only at hi hrep hap ⊢
  (rw [show (List.range 11).map u = [u 0, u 1, u 2, u 3, u 4, u 5, u 6, u 7, u 8, u 9, u 10] from rfl]; simp only [List.cons_append, List.nil_append])
  repeat (first | refine zE ?_ | refine zP ?_ | refine zD ?_ | refine zQ ?_ | refine zR ?_ | refine zS ?_ | refine wN ?_ | refine wM ?_ | refine wR ?_ | refine wS ?_ | refine wB ?_ | refine wG ?_ | refine wD ?_ | refine wY ?_ | refine wZ ?_ | refine wK ?_ | refine wT ?_ | refine wX ?_)
  by_cases hlt : i < al.length
  · refine wp_yes rfl (decide_eq_true (by omega)) ?_
    obtain ⟨x, hx⟩ := get_of hlt
    have hrl := rows_length (enc := intV) (k := 1) (fun _ => rfl) al
    repeat (first | refine zE ?_ | refine zP ?_ | refine zD ?_ | refine zQ ?_ | refine zR ?_ | refine zS ?_ | refine wN ?_ | refine wM ?_ | refine wR ?_ | refine wS ?_ | refine wB ?_ | refine wG ?_ | refine wD ?_ | refine wY ?_ | refine wZ ?_ | refine wK ?_ | refine wT ?_ | refine wX ?_)
    refine zF (step_idxo rfl rfl rfl rfl rfl rfl ⟨by omega, by omega⟩ ht0) ?_
    refine zF (step_loada rfl rfl rfl ht0 ⟨by show ((i : Nat) : Int).toNat * 1 + 1 ≤ al.length * 1; simp; omega, by omega⟩ (ints_at hx)) ?_
    repeat (first | refine zE ?_ | refine zP ?_ | refine zD ?_ | refine zQ ?_ | refine zR ?_ | refine zS ?_ | refine wN ?_ | refine wM ?_ | refine wR ?_ | refine wS ?_ | refine wB ?_ | refine wG ?_ | refine wD ?_ | refine wY ?_ | refine wZ ?_ | refine wK ?_ | refine wT ?_ | refine wX ?_)
    rw [toB_wrap]
    repeat (first | refine zE ?_ | refine zP ?_ | refine zD ?_ | refine zQ ?_ | refine zR ?_ | refine zS ?_ | refine wN ?_ | refine wM ?_ | refine wR ?_ | refine wS ?_ | refine wB ?_ | refine wG ?_ | refine wD ?_ | refine wY ?_ | refine wZ ?_ | refine wK ?_ | refine wT ?_ | refine wX ?_)
    obtain ⟨D, v', H', c, hD, hr, ha⟩ := append_rep (fid := 181) (dst := 26) (tt := 259) (enc := u8V) (k := 1) (fun _ => rfl) (by decide) (fun _ => rfl) rfl rfl rfl rfl (by decide) rfl hrep [toB x] (by simp) (by simp; omega) (Nat.zero_le _) true 1 rfl
    refine zF (step_append rfl rfl rfl rfl hD (hr _ rfl)) ?_
    repeat (first | refine zE ?_ | refine zP ?_ | refine zD ?_ | refine zQ ?_ | refine zR ?_ | refine zS ?_ | refine wN ?_ | refine wM ?_ | refine wR ?_ | refine wS ?_ | refine wB ?_ | refine wG ?_ | refine wD ?_ | refine wY ?_ | refine wZ ?_ | refine wK ?_ | refine wT ?_ | refine wX ?_)
    rw [wrap_succ (by omega)]
    refine ⟨(i + 1, v', .int .i64 x), _, rfl, rfl, ⟨hlt, ?_, ?_, ?_⟩, (by first | omega | (dsimp only; omega))⟩
    · rw [ha.same t0 (get_lt ht0) hap]; exact ht0
    · have := ha.rep
      rw [List.append_assoc, ← map_take toB hx] at this
      exact this
    · rcases ha.nums with h | ⟨m, h, hm⟩
      · rw [h]; exact hap
      · rw [h]; intro e; cases e; have := get_lt ht0; omega
  refine wp_no rfl (decide_eq_false (by omega)) ?_
  have hil : i = al.length := by omega
  subst hil
  rw [List.take_length] at hrep
  repeat (first | refine zE ?_ | refine zP ?_ | refine zD ?_ | refine zQ ?_ | refine zR ?_ | refine zS ?_ | refine wN ?_ | refine wM ?_ | refine wR ?_ | refine wS ?_ | refine wB ?_ | refine wG ?_ | refine wD ?_ | refine wY ?_ | refine wZ ?_ | refine wK ?_ | refine wT ?_ | refine wX ?_)
  refine zF (step_str rfl rfl rfl rfl hrep (by simp [hnne])) ?_
  repeat (first | refine zE ?_ | refine zP ?_ | refine zD ?_ | refine zQ ?_ | refine zR ?_ | refine zS ?_ | refine wN ?_ | refine wM ?_ | refine wR ?_ | refine wS ?_ | refine wB ?_ | refine wG ?_ | refine wD ?_ | refine wY ?_ | refine wZ ?_ | refine wK ?_ | refine wT ?_ | refine wX ?_)
  refine ⟨.inr rfl, _, rfl, ?_⟩
  unfold keyO
  rw [hal2, hnl2]
  rfl
end Go.Av
namespace Go.Av
open Go.Proofs
set_option maxRecDepth 100000
def mapE {α : Type} (k : α → V) (L : List (α × V)) : List (V × V) := L.map fun p => (k p.1, p.2)
section
variable {α : Type} [DecidableEq α] {k : α → V}
theorem mapE_off (hq : ∀ a b, (k a).keyEq (k b) = some (decide (a = b))) {L : List (α × V)} {x : α} (h : x ∉ L.map Prod.fst) : (mapE k L).all (k x).off = true := by
  rw [List.all_eq_true]
  intro p hp
  obtain ⟨q, hq2, rfl⟩ := List.mem_map.1 hp
  have hne : x ≠ q.1 := fun e => h (by rw [e]; exact List.mem_map_of_mem hq2)
  simp only [V.off, hq, decide_eq_false hne]
theorem mapFind_E (hq : ∀ a b, (k a).keyEq (k b) = some (decide (a = b))) : ∀ {L : List (α × V)}, (L.map Prod.fst).Nodup → ∀ x, mapFind (k x) (mapE k L) = some (L.lookup x)
  | [], _, x => rfl
  | (b, v) :: L, hn, x => by
    rw [List.map_cons, List.nodup_cons] at hn
    have ih := mapFind_E hq hn.2 x
    show mapFind (k x) ((k b, v) :: mapE k L) = _
    rw [mapFind, hq]
    by_cases h : x = b
    · subst h
      simp only [decide_true]
      rw [if_pos (mapE_off hq hn.1)]
      simp [List.lookup]
    · have hb : (x == b) = false := by simpa using h
      simp only [decide_eq_false h, ih, List.lookup, hb]
theorem mapPut_E (hq : ∀ a b, (k a).keyEq (k b) = some (decide (a = b))) (w : V) : ∀ {L : List (α × V)} {x : α}, x ∉ L.map Prod.fst → mapPut (k x) w (mapE k L) = some (mapE k (L ++ [(x, w)]))
  | [], x, _ => rfl
  | (b, v) :: L, x, h => by
    rw [List.map_cons, List.mem_cons, not_or] at h
    have ih := mapPut_E hq w h.2
    show mapPut (k x) w ((k b, v) :: mapE k L) = _
    rw [mapPut, hq]
    simp only [decide_eq_false (show ¬ x = b from h.1), ih, Option.map_some]
    rfl
theorem keyed_E {kt : TypeId} {L : List (α × V)} (hk : ∀ a, a ∈ L.map Prod.fst → cfg.keyed kt (k a) = true) : ((mapE k L).all fun p => cfg.keyed kt p.1) = true := by
  rw [List.all_eq_true]
  intro p hp
  obtain ⟨q, hq, rfl⟩ := List.mem_map.1 hp
  exact hk _ (List.mem_map_of_mem hq)
variable {f : FuncId} {ops : Array Oper} {o : Oper} {l : List Oper} {tm : List V} {H : Heap} {d : List Nat} {Q : List V → Heap → List Nat → Prop}
theorem step_lookup {t kt el : TypeId} {x j : Operand} {it ie : TI} {z : V} {id : Nat} {a : α} {L : List (α × V)} (ho : o.op = .lookup t x j false) (hT : cfg.T t = some it) (hd : it.d = .map kt el) (hE : cfg.T el = some ie) (hagg : ie.agg = false) (hz : ie.zero = [z]) (hx : ov tm x = some (.mp id)) (hj : ov tm j = some (k a))
    (hq : ∀ a b, (k a).keyEq (k b) = some (decide (a = b))) (hk : cfg.keyed kt (k a) = true) (hL : ∀ b, b ∈ L.map Prod.fst → cfg.keyed kt (k b) = true) (hH : H[id]? = some (.map (mapE k L))) (hn : (L.map Prod.fst).Nodup) : stepOp f o tm H = some ⟨(L.lookup a).getD z, false, H, .reads id⟩ := by
  obtain ⟨i1, i2, i3, i4, i5⟩ := it
  simp only at hd
  subst hd
  refine step_of (D := .read id fun
        | .map es => if ie.agg = false ∧ cfg.keyed kt (k a) = true ∧ (es.all fun p => cfg.keyed kt p.1) = true then (mapFind (k a) es).bind fun r => match ie.zero with
          | [z] => some (if false then .tup [r.getD z, .bool r.isSome] else r.getD z)
          | _ => none
          else none
        | _ => none) ?_ ?_
  · simp only [evDsc, ho, hT, hE, hj, hx, Option.bind_some]
    rfl
  · simp only [atPlace, runDsc, hH, Option.bind_some]
    rw [if_pos ⟨hagg, hk, keyed_E hL⟩, mapFind_E hq hn, Option.bind_some, hz]
    rfl
theorem step_mapput {t kt el : TypeId} {m j v : Operand} {it : TI} {id : Nat} {a : α} {w : V} {L : List (α × V)} (ho : o.op = .mapUpdate t m j v) (hT : cfg.T t = some it) (hd : it.d = .map kt el) (hm : ov tm m = some (.mp id)) (hj : ov tm j = some (k a)) (hv : ov tm v = some w)
    (hq : ∀ a b, (k a).keyEq (k b) = some (decide (a = b))) (hk : cfg.keyed kt (k a) = true) (hL : ∀ b, b ∈ L.map Prod.fst → cfg.keyed kt (k b) = true) (hH : H[id]? = some (.map (mapE k L))) (hnew : a ∉ L.map Prod.fst) : stepOp f o tm H = some ⟨.junk, false, H.set id (.map (mapE k (L ++ [(a, w)]))), .loc id⟩ := by
  obtain ⟨i1, i2, i3, i4, i5⟩ := it
  simp only at hd
  subst hd
  refine step_of (D := .upd id (fun
        | .map es => if cfg.keyed kt (k a) = true ∧ (es.all fun p => cfg.keyed kt p.1) = true then (mapPut (k a) w es).map .map else none
        | _ => none) .junk) ?_ ?_
  · simp only [evDsc, ho, hT, hj, hm, hv, Option.bind_some]
    rfl
  · simp only [atPlace, runDsc, hH, Option.bind_some]
    rw [if_pos ⟨hk, keyed_E hL⟩, mapPut_E hq w hnew]
    rfl
def setE (l : List α) : List (α × V) := l.map fun a => (a, .bool true)
theorem setE_fst (l : List α) : (setE l).map Prod.fst = l := by
  unfold setE
  rw [List.map_map]
  exact List.map_id _
def memB (x : α) (l : List α) : Bool := decide (x ∈ l)
theorem memB_iff {x : α} {l : List α} : memB x l = true ↔ x ∈ l := by unfold memB; simp
theorem memB_no {x : α} {l : List α} (h : memB x l = false) : x ∉ l := fun e => by rw [memB_iff.2 e] at h; cases h
theorem setE_lookup (x : α) : ∀ l : List α, ((setE l).lookup x).getD (.bool false) = .bool (memB x l)
  | [] => rfl
  | b :: l => by
    have ih := setE_lookup x l
    show (List.lookup x ((b, V.bool true) :: setE l)).getD (.bool false) = _
    by_cases h : x = b
    · subst h; simp [List.lookup, memB]
    · have hb : (x == b) = false := by simpa using h
      simp only [List.lookup, hb]
      rw [ih]
      simp [h, memB]
theorem setE_snoc (l : List α) (x : α) : setE l ++ [(x, .bool true)] = setE (l ++ [x]) := by simp [setE]
end
theorem strK_eq (a b : ByteArray) : (V.str a).keyEq (.str b) = some (decide (a = b)) := by
  show some (strEq a b) = _
  by_cases h : a = b
  · rw [decide_eq_true h, strEq_iff.2 h]
  · have : strEq a b = false := by
      cases he : strEq a b
      · rfl
      · exact absurd (strEq_iff.1 he) h
    rw [decide_eq_false h, this]
theorem strK_keyed {a : ByteArray} (h : a.size ≤ 1000) : cfg.keyed 9 (.str a) = true := by
  show (true && keyedOf tiTree.get 9 (.str a)) = true
  unfold keyedOf
  rw [show (tiTree.get 9).map (fun (i : TI) => i.d) = some .str from rfl, Bool.true_and]
  show decide (a.size ≤ 140737488351232) = true
  exact decide_eq_true (by omega)
theorem intK_eq (a b : Int) : (V.int .i64 a).keyEq (.int .i64 b) = some (decide (a = b)) := by
  show (if IntKind.i64 = IntKind.i64 then some (decide (a = b)) else none) = _
  rw [if_pos rfl]
theorem intK_keyed {a : Int} (h1 : -9223372036854775808 ≤ a) (h2 : a ≤ 9223372036854775807) : cfg.keyed 3 (.int .i64 a) = true := by
  show (true && keyedOf tiTree.get 3 (.int .i64 a)) = true
  unfold keyedOf
  rw [show (tiTree.get 3).map (fun (i : TI) => i.d) = some (.int .i64) from rfl, Bool.true_and]
  show (decide (IntKind.i64 = IntKind.i64) && decide (IntKind.i64.wrap a = a)) = true
  rw [decide_eq_true rfl, decide_eq_true (wrap_in h1 h2)]
  rfl
theorem take_get {α : Type} {l : List α} {i : Nat} {x : α} (h : x ∈ l.take i) : ∃ j, j < i ∧ l[j]? = some x := by
  obtain ⟨j, hj⟩ := List.getElem?_of_mem h
  have h1 := (List.getElem?_eq_some_iff.1 hj).1
  rw [List.length_take] at h1
  rw [List.getElem?_take] at hj
  split at hj
  · rename_i h2; exact ⟨j, h2, hj⟩
  · cases hj
theorem nodup_snoc {α : Type} {l : List α} {i : Nat} {x : α} (h : l[i]? = some x) (hn : (l.take i).Nodup) (hx : x ∉ l.take i) : (l.take (i + 1)).Nodup := by
  rw [List.take_add_one, h]
  rw [List.nodup_append]
  exact ⟨hn, by simp, fun a ha b hb e => by simp at hb; subst hb; subst e; exact hx ha⟩
theorem nodup_ne {α : Type} {l : List α} (hn : l.Nodup) {j k : Nat} {x y : α} (hk : k < j) (hx : l[j]? = some x) (hy : l[k]? = some y) : x ≠ y := by
  rintro rfl
  have h1 := (List.getElem?_eq_some_iff.1 hx).1
  have h2 : j = k := (List.getElem?_inj h1 hn).1 (hx.trans hy.symm)
  omega
theorem split40 : ∀ {a b r s : List UInt8}, (40 : UInt8) ∉ a → (40 : UInt8) ∉ b → a ++ 40 :: r = b ++ 40 :: s → a = b ∧ r = s
  | [], [], r, s, _, _, h => ⟨rfl, (List.cons.inj h).2⟩
  | [], y :: b, r, s, _, hb, h => absurd (by have := (List.cons.inj h).1; rw [this]; simp) hb
  | x :: a, [], r, s, ha, _, h => absurd (by have := (List.cons.inj h).1; rw [← this]; simp) ha
  | x :: a, y :: b, r, s, ha, hb, h => by
    have h1 := List.cons.inj h
    have := split40 (fun e => ha (by simp [e])) (fun e => hb (by simp [e])) h1.2
    exact ⟨by rw [h1.1, this.1], this.2⟩
theorem toB_inj {x y : Int} (hx : 0 ≤ x ∧ x < 256) (hy : 0 ≤ y ∧ y < 256) (h : toB x = toB y) : x = y := by
  have h2 : ((toB x).toNat : Int) = ((toB y).toNat : Int) := by rw [h]
  rw [← toB_wrap, ← toB_wrap] at h2
  have e : ∀ z : Int, IntKind.u8.wrap z = z % 256 := fun z => by simp [IntKind.wrap, IntKind.bits, IntKind.signed]
  rw [e, e, Int.emod_eq_of_lt hx.1 hx.2, Int.emod_eq_of_lt hy.1 hy.2] at h2
  exact h2
theorem map_toB_inj : ∀ {a b : List Int}, (∀ x, x ∈ a → 0 ≤ x ∧ x < 256) → (∀ x, x ∈ b → 0 ≤ x ∧ x < 256) → a.map toB = b.map toB → a = b
  | [], [], _, _, _ => rfl
  | [], _ :: _, _, _, h => by simp at h
  | _ :: _, [], _, _, h => by simp at h
  | x :: a, y :: b, ha, hb, h => by
    rw [List.map_cons, List.map_cons] at h
    have h1 := List.cons.inj h
    rw [toB_inj (ha x (by simp)) (hb y (by simp)) h1.1, map_toB_inj (fun z hz => ha z (by simp [hz])) (fun z hz => hb z (by simp [hz])) h1.2]
theorem opOK_args {n : Nat} {o : O} (h : opOK n o = true) (hn : n ≤ 64) : o.name.size ≤ 32 ∧ o.args.length ≤ 8 ∧ (40 : UInt8) ∉ o.name.data.toList ∧ ∀ x, x ∈ o.args ++ [o.res] → 0 ≤ x ∧ x < 256 := by
  unfold opOK within at h
  simp only [Bool.and_eq_true, List.all_eq_true, decide_eq_true_eq] at h
  obtain ⟨h1, h2, h3, h4, h5, h6⟩ := h
  rw [isNameB_all, Bool.and_eq_true, Bool.and_eq_true, decide_eq_true_eq, decide_eq_true_eq, List.all_eq_true] at h1
  refine ⟨h1.1.2, by omega, fun hm => ?_, fun x hx => ?_⟩
  · have := h1.2 40 hm
    simp [goodByte] at this
  · rcases List.mem_append.1 hx with hx | hx
    · have := h5 x hx; omega
    · have := h6 x hx; omega
theorem keyO_eq {n : Nat} {x y : O} (hx : opOK n x = true) (hy : opOK n y = true) (hn : n ≤ 64) : keyO x = keyO y ↔ opEq x y = true := by
  obtain ⟨_, _, x3, x4⟩ := opOK_args hx hn
  obtain ⟨_, _, y3, y4⟩ := opOK_args hy hn
  unfold opEq
  rw [Bool.and_eq_true, Bool.and_eq_true, beq_iff_eq, decide_eq_true_eq, strEq_iff]
  constructor
  · intro h
    unfold keyO at h
    rw [List.append_assoc, List.append_assoc] at h
    obtain ⟨h1, h2⟩ := split40 x3 y3 h
    have h3 := map_toB_inj x4 y4 h2
    have h4 := List.append_inj' h3 rfl
    exact ⟨ByteArray.ext (Array.toList_inj.1 h1), by simpa using h4.2, h4.1⟩
  · rintro ⟨h1, h2, h3⟩
    unfold keyO
    rw [h1, h2, h3]
def keyA (o : O) : ByteArray := ⟨(keyO o).toArray⟩
theorem keyA_eq {n : Nat} {x y : O} (hx : opOK n x = true) (hy : opOK n y = true) (hn : n ≤ 64) : keyA x = keyA y ↔ opEq x y = true := by
  rw [← keyO_eq hx hy hn]
  unfold keyA
  constructor
  · intro h
    have : (keyO x).toArray = (keyO y).toArray := congrArg ByteArray.data h
    simpa using this
  · intro h; rw [h]
theorem sortOK_iff (b : ByteArray) : sortOK b = (isNameB b && !(b.data.toList.contains 95)) := by
  unfold sortOK
  congr 2
  cases h : b.data.toList.contains 95
  · have : (95 : UInt8) ∉ b.data.toList := fun e => by rw [← List.contains_iff_mem] at e; rw [e] at h; cases h
    rw [List.count_eq_zero.2 this]; rfl
  · have : (95 : UInt8) ∈ b.data.toList := List.contains_iff_mem.1 h
    have := List.count_pos_iff.2 this
    rw [decide_eq_true (by omega)]
end Go.Av
namespace Go.Av
open Go.Proofs
set_option maxRecDepth 100000
theorem F111 : cfg.F 111 = some Tryz.f111 := rfl
set_option maxHeartbeats 16000000 in
theorem check_fn (s : S) (hf : s.Fit) : Fn 111 [.agg (sV s)] (.int .i64 (if sigB s then 0 else 40)) := by
  refine Fn.of_wp F111 rfl ?_
  simp only [show Tryz.f111.ntmps = 66 from rfl, List.length_cons, List.length_nil, List.replicate, List.cons_append, List.nil_append]
  repeat (first | refine zE ?_ | refine zP ?_ | refine zD ?_ | refine zQ ?_ | refine zR ?_ | refine zS ?_ | refine wN ?_ | refine wM ?_ | refine wR ?_ | refine wS ?_ | refine wB ?_ | refine wG ?_ | refine wD ?_ | refine wY ?_ | refine wZ ?_ | refine wK ?_ | refine wT ?_ | refine wX ?_)
  cases h1 : decide ((s.sorts.length : Int) > 64)
  case true =>
    rw [sigB_no fun h => by have := h.few; simp at h1; omega]
    repeat (first | refine zE ?_ | refine zP ?_ | refine zD ?_ | refine zQ ?_ | refine zR ?_ | refine zS ?_ | refine wN ?_ | refine wM ?_ | refine wR ?_ | refine wS ?_ | refine wB ?_ | refine wG ?_ | refine wD ?_ | refine wY ?_ | refine wZ ?_ | refine wK ?_ | refine wT ?_ | refine wX ?_)
    exact ⟨.inr rfl, _, rfl, rfl⟩
  repeat (first | refine zE ?_ | refine zP ?_ | refine zD ?_ | refine zQ ?_ | refine zR ?_ | refine zS ?_ | refine wN ?_ | refine wM ?_ | refine wR ?_ | refine wS ?_ | refine wB ?_ | refine wG ?_ | refine wD ?_ | refine wY ?_ | refine wZ ?_ | refine wK ?_ | refine wT ?_ | refine wX ?_)
  cases h2 : decide ((s.ops.length : Int) > 256)
  case true =>
    rw [sigB_no fun h => by have := h.fewOps; simp at h2; omega]
    repeat (first | refine zE ?_ | refine zP ?_ | refine zD ?_ | refine zQ ?_ | refine zR ?_ | refine zS ?_ | refine wN ?_ | refine wM ?_ | refine wR ?_ | refine wS ?_ | refine wB ?_ | refine wG ?_ | refine wD ?_ | refine wY ?_ | refine wZ ?_ | refine wK ?_ | refine wT ?_ | refine wX ?_)
    exact ⟨.inr rfl, _, rfl, rfl⟩
  have hlen : s.sorts.length ≤ 64 := by simp at h1; omega
  have hlen2 : s.ops.length ≤ 256 := by simp at h2; omega
  clear h1 h2
  repeat (first | refine zE ?_ | refine zP ?_ | refine zD ?_ | refine zQ ?_ | refine zR ?_ | refine zS ?_ | refine wN ?_ | refine wM ?_ | refine wR ?_ | refine wS ?_ | refine wB ?_ | refine wG ?_ | refine wD ?_ | refine wY ?_ | refine wZ ?_ | refine wK ?_ | refine wT ?_ | refine wX ?_)
  refine wp_loop2 42 (fun a : Nat × V => [.agg (sV s), .bp 0 0, .int .i64 0, .mp 1, .junk, a.2, .junk, .junk, .junk, .bp 0 0, .sl s.sorts.length s.fs (strs s.sorts), .int .i64 (s.sorts.length : Int), .bool false, .bool false, .bp 0 1, .sl s.ops.length s.fo (rows oV s.ops), .int .i64 (s.ops.length : Int), .bool false, .bool false, .mp 1, .bp 0 0, .sl s.sorts.length s.fs (strs s.sorts), .int .i64 (s.sorts.length : Int), .int .i64 (a.1 : Int)]) (fun a H => H = [.box (sV s), .map (mapE V.str (setE (s.sorts.take a.1)))] ∧ a.1 ≤ s.sorts.length ∧ (s.sorts.take a.1).Nodup ∧ ∀ j, j < a.1 → ∀ x, s.sorts[j]? = some x → sortOK x = true) (fun a => s.sorts.length - a.1) (0, .junk) ⟨_, rfl, rfl, rfl, Nat.zero_le _, List.nodup_nil, fun j hj => by omega⟩ ?_
  rintro ⟨i, v5⟩ H d u ⟨rfl, hi, hnd, hb⟩
  dsimp only at hi hnd hb ⊢
  (rw [show (List.range 42).map u = [u 0, u 1, u 2, u 3, u 4, u 5, u 6, u 7, u 8, u 9, u 10, u 11, u 12, u 13, u 14, u 15, u 16, u 17, u 18, u 19, u 20, u 21, u 22, u 23, u 24, u 25, u 26, u 27, u 28, u 29, u 30, u 31, u 32, u 33, u 34, u 35, u 36, u 37, u 38, u 39, u 40, u 41] from rfl]; simp only [List.cons_append, List.nil_append])
  repeat (first | refine zE ?_ | refine zP ?_ | refine zD ?_ | refine zQ ?_ | refine zR ?_ | refine zS ?_ | refine wN ?_ | refine wM ?_ | refine wR ?_ | refine wS ?_ | refine wB ?_ | refine wG ?_ | refine wD ?_ | refine wY ?_ | refine wZ ?_ | refine wK ?_ | refine wT ?_ | refine wX ?_)
  by_cases hlt : i < s.sorts.length
  · refine wp_yes rfl (decide_eq_true (by omega)) ?_
    obtain ⟨x, hx⟩ := get_of hlt
    have hxs := hf.sort i x hx
    repeat (first | refine zE ?_ | refine zP ?_ | refine zD ?_ | refine zQ ?_ | refine zR ?_ | refine zS ?_ | refine wN ?_ | refine wM ?_ | refine wR ?_ | refine wS ?_ | refine wB ?_ | refine wG ?_ | refine wD ?_ | refine wY ?_ | refine wZ ?_ | refine wK ?_ | refine wT ?_ | refine wX ?_)
    refine zF (step_idx rfl rfl rfl rfl rfl rfl ⟨by omega, by omega⟩ (drop_rows (k := 1) (fun _ => rfl) hx)) ?_
    repeat (first | refine zE ?_ | refine zP ?_ | refine zD ?_ | refine zQ ?_ | refine zR ?_ | refine zS ?_ | refine wN ?_ | refine wM ?_ | refine wR ?_ | refine wS ?_ | refine wB ?_ | refine wG ?_ | refine wD ?_ | refine wY ?_ | refine wZ ?_ | refine wK ?_ | refine wT ?_ | refine wX ?_)
    refine zF (step_call rfl rfl ((isName_fn x hxs).cl)) ?_
    repeat (first | refine zE ?_ | refine zP ?_ | refine zD ?_ | refine zQ ?_ | refine zR ?_ | refine zS ?_ | refine wN ?_ | refine wM ?_ | refine wR ?_ | refine wS ?_ | refine wB ?_ | refine wG ?_ | refine wD ?_ | refine wY ?_ | refine wZ ?_ | refine wK ?_ | refine wT ?_ | refine wX ?_)
    cases h3 : isNameB x
    · rw [sigB_no fun h => by have := h.sort i x hx; simp [sortOK, h3] at this]
      repeat (first | refine zE ?_ | refine zP ?_ | refine zD ?_ | refine zQ ?_ | refine zR ?_ | refine zS ?_ | refine wN ?_ | refine wM ?_ | refine wR ?_ | refine wS ?_ | refine wB ?_ | refine wG ?_ | refine wD ?_ | refine wY ?_ | refine wZ ?_ | refine wK ?_ | refine wT ?_ | refine wX ?_)
      exact ⟨.inr rfl, _, rfl, rfl⟩
    repeat (first | refine zE ?_ | refine zP ?_ | refine zD ?_ | refine zQ ?_ | refine zR ?_ | refine zS ?_ | refine wN ?_ | refine wM ?_ | refine wR ?_ | refine wS ?_ | refine wB ?_ | refine wG ?_ | refine wD ?_ | refine wY ?_ | refine wZ ?_ | refine wK ?_ | refine wT ?_ | refine wX ?_)
    refine zF (step_val (v := .bool (x.data.toList.contains 95)) rfl) ?_
    repeat (first | refine zE ?_ | refine zP ?_ | refine zD ?_ | refine zQ ?_ | refine zR ?_ | refine zS ?_ | refine wN ?_ | refine wM ?_ | refine wR ?_ | refine wS ?_ | refine wB ?_ | refine wG ?_ | refine wD ?_ | refine wY ?_ | refine wZ ?_ | refine wK ?_ | refine wT ?_ | refine wX ?_)
    cases h4 : x.data.toList.contains 95
    case true =>
      rw [sigB_no fun h => by have := h.sort i x hx; rw [sortOK_iff, h4] at this; simp at this]
      repeat (first | refine zE ?_ | refine zP ?_ | refine zD ?_ | refine zQ ?_ | refine zR ?_ | refine zS ?_ | refine wN ?_ | refine wM ?_ | refine wR ?_ | refine wS ?_ | refine wB ?_ | refine wG ?_ | refine wD ?_ | refine wY ?_ | refine wZ ?_ | refine wK ?_ | refine wT ?_ | refine wX ?_)
      exact ⟨.inr rfl, _, rfl, rfl⟩
    have hok : sortOK x = true := by rw [sortOK_iff, h3, h4]; rfl
    have hnm : ∀ y, sortOK y = true → y.size ≤ 1000 := fun y hy => by
      rw [sortOK_iff, isNameB_all] at hy
      simp only [Bool.and_eq_true, decide_eq_true_eq] at hy
      omega
    have hL : ∀ b, b ∈ (setE (s.sorts.take i)).map Prod.fst → cfg.keyed 9 (.str b) = true := fun b hb2 => by
      rw [setE_fst] at hb2
      obtain ⟨j, hj, hjb⟩ := take_get hb2
      exact strK_keyed (hnm b (hb j hj b hjb))
    repeat (first | refine zE ?_ | refine zP ?_ | refine zD ?_ | refine zQ ?_ | refine zR ?_ | refine zS ?_ | refine wN ?_ | refine wM ?_ | refine wR ?_ | refine wS ?_ | refine wB ?_ | refine wG ?_ | refine wD ?_ | refine wY ?_ | refine wZ ?_ | refine wK ?_ | refine wT ?_ | refine wX ?_)
    refine zF (step_lookup (k := V.str) (a := x) rfl rfl rfl rfl rfl rfl rfl rfl strK_eq (strK_keyed (hnm x hok)) hL rfl (by rw [setE_fst]; exact hnd)) ?_
    rw [setE_lookup]
    repeat (first | refine zE ?_ | refine zP ?_ | refine zD ?_ | refine zQ ?_ | refine zR ?_ | refine zS ?_ | refine wN ?_ | refine wM ?_ | refine wR ?_ | refine wS ?_ | refine wB ?_ | refine wG ?_ | refine wD ?_ | refine wY ?_ | refine wZ ?_ | refine wK ?_ | refine wT ?_ | refine wX ?_)
    cases h5 : memB x (s.sorts.take i)
    case true =>
      obtain ⟨j, hj, hjx⟩ := take_get (memB_iff.1 h5)
      rw [sigB_no fun h => by have := h.once i j x x hj hx hjx; rw [strEq_iff.2 rfl] at this; cases this]
      repeat (first | refine zE ?_ | refine zP ?_ | refine zD ?_ | refine zQ ?_ | refine zR ?_ | refine zS ?_ | refine wN ?_ | refine wM ?_ | refine wR ?_ | refine wS ?_ | refine wB ?_ | refine wG ?_ | refine wD ?_ | refine wY ?_ | refine wZ ?_ | refine wK ?_ | refine wT ?_ | refine wX ?_)
      exact ⟨.inr rfl, _, rfl, rfl⟩
    have h5' := memB_no h5
    repeat (first | refine zE ?_ | refine zP ?_ | refine zD ?_ | refine zQ ?_ | refine zR ?_ | refine zS ?_ | refine wN ?_ | refine wM ?_ | refine wR ?_ | refine wS ?_ | refine wB ?_ | refine wG ?_ | refine wD ?_ | refine wY ?_ | refine wZ ?_ | refine wK ?_ | refine wT ?_ | refine wX ?_)
    refine zF (step_mapput (k := V.str) (a := x) rfl rfl rfl rfl rfl rfl strK_eq (strK_keyed (hnm x hok)) hL rfl (by rw [setE_fst]; exact h5')) ?_
    rw [setE_snoc]
    repeat (first | refine zE ?_ | refine zP ?_ | refine zD ?_ | refine zQ ?_ | refine zR ?_ | refine zS ?_ | refine wN ?_ | refine wM ?_ | refine wR ?_ | refine wS ?_ | refine wB ?_ | refine wG ?_ | refine wD ?_ | refine wY ?_ | refine wZ ?_ | refine wK ?_ | refine wT ?_ | refine wX ?_)
    rw [wrap_succ (by omega)]
    refine ⟨(i + 1, .str x), _, rfl, rfl, ⟨?_, hlt, nodup_snoc hx hnd h5', below_succ hb fun y hy => by rw [hx] at hy; cases hy; exact hok⟩, (by first | omega | (dsimp only; omega))⟩
    rw [List.take_add_one, hx]
    rfl
  refine wp_no rfl (decide_eq_false (by omega)) ?_
  have hil : i = s.sorts.length := by omega
  subst hil
  rw [List.take_length] at hnd
  have once : ∀ (j k : Nat) x y, k < j → s.sorts[j]? = some x → s.sorts[k]? = some y → strEq y x = false := fun j k x y hk hx hy => by
    cases he : strEq y x
    · rfl
    · exact absurd (strEq_iff.1 he) (Ne.symm (nodup_ne hnd hk hx hy))
  repeat (first | refine zE ?_ | refine zP ?_ | refine zD ?_ | refine zQ ?_ | refine zR ?_ | refine zS ?_ | refine wN ?_ | refine wM ?_ | refine wR ?_ | refine wS ?_ | refine wB ?_ | refine wG ?_ | refine wD ?_ | refine wY ?_ | refine wZ ?_ | refine wK ?_ | refine wT ?_ | refine wX ?_)
  refine wp_loop2 19 (fun a : Nat × V => [.agg (sV s), .bp 0 0, .int .i64 0, .mp 1, .junk, v5, .mp 2, .junk, a.2, .bp 0 0, .sl s.sorts.length s.fs (strs s.sorts), .int .i64 (s.sorts.length : Int), .bool false, .bool false, .bp 0 1, .sl s.ops.length s.fo (rows oV s.ops), .int .i64 (s.ops.length : Int), .bool false, .bool false, .mp 1, .bp 0 0, .sl s.sorts.length s.fs (strs s.sorts), .int .i64 (s.sorts.length : Int), .int .i64 (s.sorts.length : Int), .bool (decide ((s.sorts.length : Int) < (s.sorts.length : Int))), u 1, u 2, u 3, u 4, u 5, u 6, u 7, u 8, u 9, u 10, u 11, u 12, u 13, u 14, u 15, u 16, u 17, .mp 2, .bp 0 1, .sl s.ops.length s.fo (rows oV s.ops), .int .i64 (s.ops.length : Int), .int .i64 (a.1 : Int)]) (fun a H => a.1 ≤ s.ops.length ∧ H[0]? = some (.box (sV s)) ∧ H[2]? = some (.map (mapE V.str (setE ((s.ops.take a.1).map keyA)))) ∧ ((s.ops.take a.1).map keyA).Nodup ∧ ∀ j, j < a.1 → ∀ x, s.ops[j]? = some x → opOK s.sorts.length x = true) (fun a => s.ops.length - a.1) (0, .junk) ⟨_, rfl, rfl, Nat.zero_le _, rfl, rfl, List.nodup_nil, fun j hj => by omega⟩ ?_
  rintro ⟨i, v8⟩ H d u2 ⟨hi, hb0, hb2, hnd2, hok2⟩
  dsimp only at hi hb2 hnd2 hok2 ⊢
  rw [show (List.range 19).map u2 = [u2 0, u2 1, u2 2, u2 3, u2 4, u2 5, u2 6, u2 7, u2 8, u2 9, u2 10, u2 11, u2 12, u2 13, u2 14, u2 15, u2 16, u2 17, u2 18] from rfl]; simp only [List.cons_append, List.nil_append]
  repeat (first | refine zE ?_ | refine zP ?_ | refine zD ?_ | refine zQ ?_ | refine zR ?_ | refine zS ?_ | refine wN ?_ | refine wM ?_ | refine wR ?_ | refine wS ?_ | refine wB ?_ | refine wG ?_ | refine wD ?_ | refine wY ?_ | refine wZ ?_ | refine wK ?_ | refine wT ?_ | refine wX ?_)
  by_cases hlt : i < s.ops.length
  · refine wp_yes rfl (decide_eq_true (by omega)) ?_
    obtain ⟨x, hx⟩ := get_of hlt
    have hxs := hf.op i x hx
    repeat (first | refine zE ?_ | refine zP ?_ | refine zD ?_ | refine zQ ?_ | refine zR ?_ | refine zS ?_ | refine wN ?_ | refine wM ?_ | refine wR ?_ | refine wS ?_ | refine wB ?_ | refine wG ?_ | refine wD ?_ | refine wY ?_ | refine wZ ?_ | refine wK ?_ | refine wT ?_ | refine wX ?_)
    refine zF (step_idx rfl rfl rfl rfl rfl rfl ⟨by omega, by omega⟩ (drop_rows (k := 3) (fun _ => rfl) hx)) ?_
    refine zF (step_enc rfl rfl rfl (oV_len x) rfl) ?_
    refine run_new rfl rfl (fun m => (by dsimp only [putTm, List.set])) ?_
    intro m H1 hm hl1 hb8 hold
    have g0 := get_lt hb0
    have g2 := get_lt hb2
    refine run_store rfl rfl rfl rfl rfl rfl rfl hb8 (cs' := oV x) rfl (by dsimp only [putTm, List.set]) ?_
    intro H2 hl2 hs8 hold2
    have hb0' : H2[0]? = some (.box (sV s)) := by rw [hold2 0 (by omega), hold 0 (by omega)]; exact hb0
    have hb2' : H2[2]? = some (.map (mapE V.str (setE ((s.ops.take i).map keyA)))) := by rw [hold2 2 (by omega), hold 2 (by omega)]; exact hb2
    repeat (first | refine zL hs8 ?_ | refine zM hs8 ?_ | refine zO hs8 ?_ | refine zL hb0' ?_ | refine zM hb0' ?_ | refine zO hb0' ?_ | refine zE ?_ | refine zP ?_ | refine zD ?_ | refine zQ ?_ | refine zR ?_ | refine zS ?_ | refine wN ?_ | refine wM ?_ | refine wR ?_ | refine wS ?_ | refine wB ?_ | refine wG ?_ | refine wD ?_ | refine wY ?_ | refine wZ ?_ | refine wK ?_ | refine wT ?_ | refine wX ?_)
    refine zF (step_call rfl rfl ((good_fn x s.sorts.length hxs.1 hxs.2).cl)) ?_
    repeat (first | refine zE ?_ | refine zP ?_ | refine zD ?_ | refine zQ ?_ | refine zR ?_ | refine zS ?_ | refine wN ?_ | refine wM ?_ | refine wR ?_ | refine wS ?_ | refine wB ?_ | refine wG ?_ | refine wD ?_ | refine wY ?_ | refine wZ ?_ | refine wK ?_ | refine wT ?_ | refine wX ?_)
    cases h3 : opOK s.sorts.length x
    · rw [sigB_no fun h => by have := h.op i x hx; rw [h3] at this; cases this]
      repeat (first | refine zE ?_ | refine zP ?_ | refine zD ?_ | refine zQ ?_ | refine zR ?_ | refine zS ?_ | refine wN ?_ | refine wM ?_ | refine wR ?_ | refine wS ?_ | refine wB ?_ | refine wG ?_ | refine wD ?_ | refine wY ?_ | refine wZ ?_ | refine wK ?_ | refine wT ?_ | refine wX ?_)
      exact ⟨.inr rfl, _, rfl, rfl⟩
    obtain ⟨z1, z2, _, _⟩ := opOK_args h3 hlen
    have ksz : ∀ y, opOK s.sorts.length y = true → (keyA y).size ≤ 1000 := fun y hy => by
      obtain ⟨z1, z2, _, _⟩ := opOK_args hy hlen
      show (keyO y).toArray.size ≤ 1000
      have : y.name.data.toList.length = y.name.size := by simp
      simp only [keyO, List.size_toArray, List.length_append, List.length_map, List.length_cons, List.length_nil]
      omega
    have hL : ∀ b, b ∈ (setE ((s.ops.take i).map keyA)).map Prod.fst → cfg.keyed 9 (.str b) = true := fun b hb2 => by
      rw [setE_fst] at hb2
      obtain ⟨y, hy, rfl⟩ := List.mem_map.1 hb2
      obtain ⟨j, hj, hjb⟩ := take_get hy
      exact strK_keyed (ksz y (hok2 j hj y hjb))
    repeat (first | refine zL hs8 ?_ | refine zM hs8 ?_ | refine zO hs8 ?_ | refine zE ?_ | refine zP ?_ | refine zD ?_ | refine zQ ?_ | refine zR ?_ | refine zS ?_ | refine wN ?_ | refine wM ?_ | refine wR ?_ | refine wS ?_ | refine wB ?_ | refine wG ?_ | refine wD ?_ | refine wY ?_ | refine wZ ?_ | refine wK ?_ | refine wT ?_ | refine wX ?_)
    refine zF (step_call rfl rfl ((key_fn x (by omega) (by omega)).cl)) ?_
    refine zF (step_lookup (k := V.str) (a := keyA x) rfl rfl rfl rfl rfl rfl rfl rfl strK_eq (strK_keyed (ksz x h3)) hL hb2' (by rw [setE_fst]; exact hnd2)) ?_
    rw [setE_lookup]
    repeat (first | refine zE ?_ | refine zP ?_ | refine zD ?_ | refine zQ ?_ | refine zR ?_ | refine zS ?_ | refine wN ?_ | refine wM ?_ | refine wR ?_ | refine wS ?_ | refine wB ?_ | refine wG ?_ | refine wD ?_ | refine wY ?_ | refine wZ ?_ | refine wK ?_ | refine wT ?_ | refine wX ?_)
    cases h5 : memB (keyA x) ((s.ops.take i).map keyA)
    case true =>
      obtain ⟨y, hy, hyk⟩ := List.mem_map.1 (memB_iff.1 h5)
      obtain ⟨j, hj, hjx⟩ := take_get hy
      have := (keyA_eq (hok2 j hj y hjx) h3 hlen).1 hyk
      rw [sigB_no fun h => by have h9 := h.onceOp i j x y hj hx hjx; rw [this] at h9; cases h9]
      repeat (first | refine zE ?_ | refine zP ?_ | refine zD ?_ | refine zQ ?_ | refine zR ?_ | refine zS ?_ | refine wN ?_ | refine wM ?_ | refine wR ?_ | refine wS ?_ | refine wB ?_ | refine wG ?_ | refine wD ?_ | refine wY ?_ | refine wZ ?_ | refine wK ?_ | refine wT ?_ | refine wX ?_)
      exact ⟨.inr rfl, _, rfl, rfl⟩
    have h5' := memB_no h5
    repeat (first | refine zL hs8 ?_ | refine zM hs8 ?_ | refine zO hs8 ?_ | refine zE ?_ | refine zP ?_ | refine zD ?_ | refine zQ ?_ | refine zR ?_ | refine zS ?_ | refine wN ?_ | refine wM ?_ | refine wR ?_ | refine wS ?_ | refine wB ?_ | refine wG ?_ | refine wD ?_ | refine wY ?_ | refine wZ ?_ | refine wK ?_ | refine wT ?_ | refine wX ?_)
    refine zF (step_call rfl rfl ((key_fn x (by omega) (by omega)).cl)) ?_
    refine zF (step_mapput (k := V.str) (a := keyA x) rfl rfl rfl rfl rfl rfl strK_eq (strK_keyed (ksz x h3)) hL hb2' (by rw [setE_fst]; exact h5')) ?_
    rw [setE_snoc]
    repeat (first | refine zE ?_ | refine zP ?_ | refine zD ?_ | refine zQ ?_ | refine zR ?_ | refine zS ?_ | refine wN ?_ | refine wM ?_ | refine wR ?_ | refine wS ?_ | refine wB ?_ | refine wG ?_ | refine wD ?_ | refine wY ?_ | refine wZ ?_ | refine wK ?_ | refine wT ?_ | refine wX ?_)
    rw [wrap_succ (by omega)]
    have hmt := map_take keyA hx
    refine ⟨(i + 1, .bp m 0), _, rfl, rfl, ⟨hlt, ?_, ?_, ?_, below_succ hok2 fun y hy => by rw [hx] at hy; cases hy; exact h3⟩, (by first | omega | (dsimp only; omega))⟩
    · rw [List.getElem?_set_ne (by omega)]; exact hb0'
    · dsimp only
      rw [hmt, List.getElem?_set_self (by omega)]
    · dsimp only
      rw [hmt, List.nodup_append]
      exact ⟨hnd2, by simp, fun a ha b hb e => by simp at hb; subst hb; subst e; exact h5' ha⟩
  refine wp_no rfl (decide_eq_false (by omega)) ?_
  have hil : i = s.ops.length := by omega
  subst hil
  rw [List.take_length] at hnd2
  have onceOp : ∀ (j k : Nat) x y, k < j → s.ops[j]? = some x → s.ops[k]? = some y → opEq y x = false := fun j k x y hk hx hy => by
    cases he : opEq y x
    · rfl
    · have hj := (List.getElem?_eq_some_iff.1 hx).1
      have e := (keyA_eq (hok2 k (by omega) y hy) (hok2 j hj x hx) hlen).2 he
      exact absurd e (Ne.symm (nodup_ne (j := j) (k := k) hnd2 hk (by rw [List.getElem?_map, hx]; rfl) (by rw [List.getElem?_map, hy]; rfl)))
  rw [sigB_yes ⟨hlen, hlen2, fun j x hx => hb j (List.getElem?_eq_some_iff.1 hx).1 x hx, once, fun j x hx => hok2 j (List.getElem?_eq_some_iff.1 hx).1 x hx, onceOp⟩]
  repeat (first | refine zE ?_ | refine zP ?_ | refine zD ?_ | refine zQ ?_ | refine zR ?_ | refine zS ?_ | refine wN ?_ | refine wM ?_ | refine wR ?_ | refine wS ?_ | refine wB ?_ | refine wG ?_ | refine wD ?_ | refine wY ?_ | refine wZ ?_ | refine wK ?_ | refine wT ?_ | refine wX ?_)
  exact ⟨.inr rfl, _, rfl, rfl⟩
end Go.Av
