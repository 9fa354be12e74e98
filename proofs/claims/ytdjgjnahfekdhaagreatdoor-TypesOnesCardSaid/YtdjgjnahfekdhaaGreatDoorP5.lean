/- What the evaluator says of calls, the program does. Conditions: none beyond the hypotheses of each theorem. -/
import Derived.Test.YtdjgjnahfekdhaaGreatDoorQ1
import Derived.Test.YtdjgjnahfekdhaaGreatDoorQ4
import Derived.Test.YtdjgjnahfekdhaaGreatDoorQ5
import Derived.Test.YtdjgjnahfekdhaaGreatDoorQ8
import Derived.Test.YtdjgjnahfekdhaaGreatDoorP1
import Derived.Test.YtdjgjnahfekdhaaGreatDoorP2
import Derived.Test.YtdjgjnahfekdhaaGreatDoorB1
set_option linter.unusedSectionVars false
set_option linter.unusedVariables false
set_option linter.unusedSimpArgs false
namespace Go.Av
open Go.Proofs Go.RowKit
variable {c : Ctx} {H : Heap} {w : World}
theorem one_of {x : V} {vs : Array Value} (h : RVs c H w [x] vs.toList) : ∃ y, vs = #[y] ∧ RV c H w x y := by
  simp only [RVs] at h
  obtain ⟨y, ys, h1, h2, rfl⟩ := h
  exact ⟨y, by apply Array.ext'; simpa using h1, h2⟩
theorem two_of {x u : V} {vs : Array Value} (h : RVs c H w [x, u] vs.toList) : ∃ y z, vs = #[y, z] ∧ RV c H w x y ∧ RV c H w u z := by
  simp only [RVs] at h
  obtain ⟨y, ys, h1, h2, z, zs, rfl, h3, rfl⟩ := h
  exact ⟨y, z, by apply Array.ext'; simpa using h1, h2, h3⟩
mutual
theorem strip_same : ∀ (n : Nat) (v v' : V), strip [] 0 true n v = some v' → v' = v
  | 0, v, v', h => by simp [strip] at h
  | n + 1, v, v', h => by
    unfold strip at h
    split at h
    · exact (Option.some.inj h).symm
    split at h
    · simp only [Option.map_eq_some_iff] at h
      obtain ⟨l, h1, rfl⟩ := h
      rw [strips_same n _ _ h1]
    · rw [if_neg (by simp)] at h
      simp at h
    · simp only [Option.map_eq_some_iff] at h
      obtain ⟨l, h1, rfl⟩ := h
      rw [strips_same n _ _ h1]
    · simp only [Option.map_eq_some_iff] at h
      obtain ⟨l, h1, rfl⟩ := h
      rw [strips_same n _ _ h1]
    · simp only [Option.map_eq_some_iff] at h
      obtain ⟨l, h1, rfl⟩ := h
      rw [strips_same n _ _ h1]
    · simp only [Option.map_eq_some_iff] at h
      obtain ⟨l, h1, rfl⟩ := h
      rw [strip_same n _ _ h1]
    · simp at h
    · simp at h
    · simp at h
    · cases h
    · cases h
    · exact (Option.some.inj h).symm
theorem strips_same : ∀ (n : Nat) (l l' : List V), l.mapM (strip [] 0 true n) = some l' → l' = l
  | n, [], l', h => by simp at h; exact h
  | n, x :: l, l', h => by
    simp only [List.mapM_cons, Option.bind_eq_bind, Option.pure_def, Option.bind_eq_some_iff, Option.some.injEq] at h
    obtain ⟨y, h1, ys, h2, rfl⟩ := h
    rw [strip_same n _ _ h1, strips_same n _ _ h2]
end
theorem idxB_eq (c : UInt8) : ∀ (l : List UInt8) (k : Int), 0 ≤ k → idxB c l k = if Lib.indexByte l c = -1 then -1 else Lib.indexByte l c + k
  | [], k, _ => by simp [idxB, Lib.indexByte]
  | x :: l, k, hk => by
    unfold idxB Lib.indexByte
    by_cases hx : (x == c) = true
    · simp [hx]
    · rw [if_neg hx, if_neg hx, idxB_eq c l (k + 1) (by omega)]
      have hge := Lib.indexByte_ge l c
      by_cases h1 : Lib.indexByte l c = -1
      · simp [h1]
      · have h2 : (Lib.indexByte l c == -1) = false := by simpa using h1
        rw [if_neg h1, h2]
        simp only [Bool.false_eq_true, if_false]
        rw [if_neg (by omega)]
        omega
theorem contains_eq (c : UInt8) : ∀ (l : List UInt8), l.contains c = decide (0 ≤ Lib.indexByte l c)
  | [] => by simp [Lib.indexByte]
  | x :: l => by
    rw [List.contains_cons, contains_eq c l, show Lib.indexByte (x :: l) c = (if x == c then 0 else if Lib.indexByte l c == -1 then -1 else Lib.indexByte l c + 1) from rfl]
    have hge := Lib.indexByte_ge l c
    by_cases hx : x = c
    · subst hx; simp
    · have h1 : (x == c) = false := by simpa using hx
      have h2 : (c == x) = false := by simpa using fun h => hx h.symm
      rw [h1, h2]
      simp only [Bool.false_eq_true, if_false, Bool.false_or]
      by_cases h3 : Lib.indexByte l c = -1
      · simp [h3]
      · have h4 : (Lib.indexByte l c == -1) = false := by simpa using h3
        rw [h4]
        simp only [Bool.false_eq_true, if_false]
        congr 1
        apply propext
        omega
theorem ints_of : ∀ {cs : List V}, cs.all isI = true → ∃ zs : List Int, cs = zs.map (V.int .i64)
  | [], _ => ⟨[], rfl⟩
  | x :: cs, h => by
    simp only [List.all_cons, Bool.and_eq_true] at h
    obtain ⟨zs, rfl⟩ := ints_of h.2
    have h1 := h.1
    unfold isI at h1
    split at h1
    · rename_i z
      exact ⟨z :: zs, rfl⟩
    · cases h1
theorem strs_of : ∀ {cs : List V}, cs.all isS = true → ∃ zs : List ByteArray, cs = zs.map V.str
  | [], _ => ⟨[], rfl⟩
  | x :: cs, h => by
    simp only [List.all_cons, Bool.and_eq_true] at h
    obtain ⟨zs, rfl⟩ := strs_of h.2
    have h1 := h.1
    unfold isS at h1
    split at h1
    · rename_i z
      exact ⟨z :: zs, rfl⟩
    · cases h1
theorem ints_vals : ∀ {zs : List Int} {vs : List Value}, RVs c H w (zs.map (V.int .i64)) vs → vs = zs.map (Value.int .i64)
  | [], vs, h => by simpa [RVs] using h
  | z :: zs, vs, h => by
    simp only [List.map_cons, RVs, RV] at h
    obtain ⟨_, ys, rfl, rfl, h2⟩ := h
    rw [ints_vals h2]; rfl
theorem strs_vals : ∀ {zs : List ByteArray} {vs : List Value}, RVs c H w (zs.map V.str) vs → vs = zs.map Value.string
  | [], vs, h => by simpa [RVs] using h
  | z :: zs, vs, h => by
    simp only [List.map_cons, RVs, RV] at h
    obtain ⟨_, ys, rfl, rfl, h2⟩ := h
    rw [strs_vals h2]; rfl
theorem keyL_cells {cs : List V} {l : List UInt8} (h : keyL cs = some l) {vs : List Value} (hv : RVs c H w cs vs) : ∃ zs : List Nat, vs = zs.map (fun z : Nat => Value.int .i64 (z : Int)) ∧ zs.length = cs.length ∧ (∀ z ∈ zs, z < 100) ∧ l = keyBs zs := by
  obtain ⟨zs, rfl, h1, h2⟩ := keyL_some h
  exact ⟨zs, key_cells rfl hv, by simp, h1, h2⟩
theorem key_call (h : RH c H w) {cs : List V} {l : List UInt8} (hk : keyL cs = some l) (hf : l.length ≤ 140737488355328) {A : Option Addr} {n cap : Nat} (hn : cs.length = n) {vs : List Value} (hv : RVs c H w cs vs) (hA : A = none → cs = [])
    (hr : ∀ y, A = some y → (0 < n → y.spot = none) ∧ w.rangeAt y.block y.off vs) : Calls Tryz.prog 219 #[.slice A n cap] w (Ret c H w (.str (bytes l)) false H) := by
  obtain ⟨zs, rfl, h1, h2, rfl⟩ := keyL_cells hk hv
  refine ret_below (x := .string ⟨(keyBs zs).toArray⟩) h (fun w2 => by simp only [RV]; rfl) (key_ok A n cap zs (by omega) h2 w hf fun j hj => ?_)
  cases hA2 : A with
  | none => have := hA hA2; subst this; simp at hn; omega
  | some y =>
    obtain ⟨hs, hcell⟩ := hr y hA2
    refine ⟨y, rfl, hs (by omega), hcell j _ ?_⟩
    have hj2 : j < zs.length := by omega
    simp [hj2]
end Go.Av
namespace Go.Av
open Go.Proofs Go.RowKit
variable {c : Ctx} {H : Heap} {w : World}
def PrimOk (g : FuncId) (p : List V → Option Dsc) : Prop :=
  ∀ args d, p args = some d → (∀ g' l, d ≠ .call g' l) ∧ ∀ c H w (vs : Array Value) v pan H', RH c H w → RVs c H w args vs.toList → runN H d = some (v, pan, H') → Calls Tryz.prog g vs w (Ret c H w v pan H')
theorem ok213 : PrimOk 213 primIsName := by
  intro args d hp
  unfold primIsName at hp
  split at hp
  · rename_i s
    cases hp
    refine ⟨fun g' l h => (by cases h), fun c H w vs v pan H' h hv hr => ?_⟩
    simp only [runN, Option.some.injEq, Prod.mk.injEq] at hr
    obtain ⟨rfl, rfl, rfl⟩ := hr
    obtain ⟨y, rfl, h1⟩ := one_of hv
    simp only [RV] at h1
    subst h1
    exact ret_below (x := .bool (isNameB s)) h (fun w2 => by simp only [RV]) (isName_ok s w)
  · cases hp
theorem ok233 : PrimOk 233 primCount := by
  intro args d hp
  unfold primCount at hp
  split at hp
  · rename_i s t
    split at hp
    · rename_i b hb
      cases hp
      refine ⟨fun g' l h => (by cases h), fun c H w vs v pan H' h hv hr => ?_⟩
      simp only [runN, Option.some.injEq, Prod.mk.injEq] at hr
      obtain ⟨rfl, rfl, rfl⟩ := hr
      obtain ⟨y, z, rfl, h1, h2⟩ := two_of hv
      simp only [RV] at h1 h2
      subst h1 h2
      have ht : t = ⟨#[b]⟩ := by apply ByteArray.ext; apply Array.ext'; simpa using hb
      subst ht
      exact ret_same (x := .int .i64 (s.data.toList.count b)) h (fun w2 => by simp only [RV]) (Tryz.strings_Count_one s b w)
    · cases hp
  · cases hp
theorem ok179 : PrimOk 179 primContains := by
  intro args d hp
  unfold primContains at hp
  split at hp
  · rename_i s t
    split at hp
    · rename_i b hb
      cases hp
      refine ⟨fun g' l h => (by cases h), fun c H w vs v pan H' h hv hr => ?_⟩
      simp only [runN, Option.some.injEq, Prod.mk.injEq] at hr
      obtain ⟨rfl, rfl, rfl⟩ := hr
      obtain ⟨y, z, rfl, h1, h2⟩ := two_of hv
      simp only [RV] at h1 h2
      subst h1 h2
      have ht : t = ⟨#[b]⟩ := by apply ByteArray.ext; apply Array.ext'; simpa using hb
      subst ht
      exact ret_same (x := .bool (decide (0 ≤ Lib.indexByte s.data.toList b))) h (fun w2 => by simp only [RV, contains_eq]) (Tryz.strings_Contains_one s b w)
    · cases hp
  · cases hp
theorem ok230 : PrimOk 230 primIndexByte := by
  intro args d hp
  unfold primIndexByte at hp
  split at hp
  · rename_i s k
    cases hp
    refine ⟨fun g' l h => (by cases h), fun c H w vs v pan H' h hv hr => ?_⟩
    simp only [runN, Option.some.injEq, Prod.mk.injEq] at hr
    obtain ⟨rfl, rfl, rfl⟩ := hr
    obtain ⟨y, z, rfl, h1, h2⟩ := two_of hv
    simp only [RV] at h1 h2
    subst h1 h2
    refine ret_same (x := .int .i64 (Lib.indexByte s.data.toList k.toNat.toUInt8)) h (fun w2 => ?_) (Tryz.strings_IndexByte s k w)
    simp only [RV]
    rw [idxB_eq _ _ 0 (Int.le_refl _), Int.add_zero]
    split
    · rename_i h1; exact congrArg _ h1
    · rfl
  · cases hp
theorem ok206 : PrimOk 206 primRepeat := by
  intro args d hp
  unfold primRepeat at hp
  split at hp
  · rename_i full v n
    split at hp
    · rename_i hn
      cases hp
      refine ⟨fun g' l h => (by cases h), fun c H w vs v' pan H' h hv hr => ?_⟩
      simp only [runN, Option.some.injEq, Prod.mk.injEq] at hr
      obtain ⟨rfl, rfl, rfl⟩ := hr
      obtain ⟨y, z, rfl, h1, h2⟩ := two_of hv
      simp only [RV] at h1 h2
      subst h2
      obtain ⟨A, cap, rfl, _, _, hnil, hcell⟩ := h1
      cases A with
      | none => have := (hnil rfl).1; omega
      | some A =>
        obtain ⟨hs, hc⟩ := hcell A rfl
        simp only [RVat, RV] at hc
        obtain ⟨_, ⟨y, hy, rfl⟩, _⟩ := hc
        have hrep : ∀ m, rep [V.int .i64 v] m = List.replicate m (V.int .i64 v) := fun m => by
          induction m with
          | zero => rfl
          | succ m ih => simp [rep, ih, List.replicate_succ]
        have hnn : ((n.toNat : Nat) : Int) = n := by omega
        have hk := repeat_ok A cap n.toNat v w (hs (by omega)) hy (by omega) (by omega)
        rw [hnn] at hk
        refine ret_row (k := 1) true h Nat.one_pos (by rw [hrep]; simp) (xs := List.replicate n.toNat (.int .i64 v)) ?_ hk
        rw [hrep]
        refine RVs_of (by simp) fun i x y hx hy => ?_
        rw [List.getElem?_replicate] at hx hy
        split at hx
        · rename_i hi
          rw [if_pos hi] at hy
          cases hx; cases hy
          simp only [RV]
        · cases hx
    · cases hp
  · cases hp
theorem ok219 : PrimOk 219 primKey := by
  intro args d hp
  unfold primKey at hp
  split at hp
  · rename_i a
    unfold viaSl at hp
    split at hp
    · rename_i n full cs
      split at hp
      · rename_i hn
        simp only [Option.map_eq_some_iff, Option.bind_eq_some_iff] at hp
        obtain ⟨u, ⟨l, h1, h2⟩, rfl⟩ := hp
        refine ⟨fun g' l h => (by cases h), fun c H w vs v pan H' h hv hr => ?_⟩
        simp only [runN, Option.some.injEq, Prod.mk.injEq] at hr
        obtain ⟨rfl, rfl, rfl⟩ := hr
        obtain ⟨y, rfl, h3⟩ := one_of hv
        obtain ⟨A, cap, us, rfl, _, hA, hu, hr2⟩ := sl_rows h h3 (n := n) (cs := cs) rfl
        unfold fits at h2
        split at h2
        · rename_i hf
          cases h2
          exact key_call h h1 hf hn hu hA hr2
        · cases h2
      · cases hp
    · rename_i t off len fin
      cases hp
      refine ⟨fun g' l h => (by cases h), fun c H w vs v pan H' h hv hr => ?_⟩
      simp only [runN, Option.map_eq_some_iff, Option.bind_eq_some_iff, Prod.mk.injEq] at hr
      obtain ⟨u, ⟨ob, hob, ⟨k, cs⟩, h0, h1⟩, rfl, rfl, rfl⟩ := hr
      split at h1
      · rename_i hn
        simp only [Option.bind_eq_some_iff] at h1
        obtain ⟨l, h1, h2⟩ := h1
        obtain ⟨y, rfl, h3⟩ := one_of hv
        simp only [RV] at h3
        obtain ⟨b, q, cap, us, rfl, _, _, hu, hr2⟩ := own_rows h h3 hob h0
        unfold fits at h2
        split at h2
        · rename_i hf
          cases h2
          exact key_call h h1 hf hn hu (fun hx => by cases hx) (fun z hz => by cases hz; exact ⟨fun _ => rfl, hr2⟩)
        · cases h2
      · cases h1
    · cases hp
  · cases hp
theorem ok220 : PrimOk 220 primText := by
  intro args d hp
  unfold primText at hp
  split at hp
  · rename_i a
    unfold pure1 at hp
    simp only [Option.bind_eq_some_iff] at hp
    obtain ⟨a', h1, h2⟩ := hp
    have := strip_same _ _ _ h1
    subst this
    split at h2
    · rename_i cs
      simp only [Option.bind_eq_some_iff, Option.map_eq_some_iff] at h2
      obtain ⟨l, h3, u, h4, rfl⟩ := h2
      refine ⟨fun g' l h => (by cases h), fun c H w vs v pan H' h hv hr => ?_⟩
      simp only [runN, Option.some.injEq, Prod.mk.injEq] at hr
      obtain ⟨rfl, rfl, rfl⟩ := hr
      obtain ⟨y, rfl, h5⟩ := one_of hv
      simp only [RV] at h5
      obtain ⟨arr, rfl, h6⟩ := h5
      unfold fits at h4
      split at h4
      · rename_i hf
        cases h4
        have := text_ok h cs l arr.toList h3 h6 hf
        simp only [Array.toArray_toList] at this
        exact ret_below (x := .string ⟨l.toArray⟩) h (fun w2 => by simp only [RV]; rfl) this
      · cases h4
    · cases h2
  · cases hp
end Go.Av
namespace Go.Av
open Go.Proofs Go.RowKit
variable {c : Ctx} {H : Heap} {w : World}
theorem rv_none : RV c H w (.sl 0 true []) (.slice none 0 0) := by
  simp only [RV]
  exact ⟨none, 0, rfl, Nat.le_refl _, fun _ => rfl, fun _ => ⟨trivial, trivial⟩, fun x hx => by cases hx⟩
theorem rv_zero {g : Nat} : RV c H w (.sl 0 true []) (.slice (some ⟨g, 0, none⟩) 0 0) := by
  simp only [RV]
  refine ⟨_, 0, rfl, Nat.le_refl _, fun _ => rfl, fun hx => (by cases hx), fun x hx => ?_⟩
  cases hx
  exact ⟨fun _ => rfl, by simp only [RVat]⟩
theorem clone_row {g : FuncId} {el : TypeId} {α : Type} {f : α → V} {f2 : α → Value} (hf : ∀ c H w x, RV c H w (f x) (f2 x)) {zs : List α} {n : Nat} (hn : zs.length = n) {vs : Array Value} (h : RH c H w)
    (hc : Calls Tryz.prog g vs w fun e w' => ∃ v', e = .returned v' ∧ w'.ownsRow w.heap.size el 1 v' n ((zs.take n).map f2) ∧ v' ≠ .slice none 0 0 ∧ Below w.heap.size w w') :
    Calls Tryz.prog g vs w (Ret c H w (.own H.length 0 n n) false (H ++ [.arr 1 false 0 (zs.map f)])) := by
  refine ret_row (k := 1) false h Nat.one_pos (by simpa using hn) ?_ hc
  rw [List.take_of_length_le (by omega)]
  refine RVs_of (by simp) fun i x y hx hy => ?_
  rw [List.getElem?_map] at hx hy
  cases hz : zs[i]? with
  | none => rw [hz] at hx; cases hx
  | some z =>
    rw [hz] at hx hy
    cases hx; cases hy
    exact hf c H w z
theorem ok71 : PrimOk 71 (primClone isI 8) := by
  intro args d hp
  have call : ∀ (c : Ctx) (H : Heap) (w : World) (n : Nat) (cs : List V) (A : Addr) (cap : Nat) (us : List Value), RH c H w → cs.length = n → n * 8 ≤ 140737488355328 → cs.all isI = true → RVs c H w cs us → A.spot = none → w.rangeAt A.block A.off us →
      Calls Tryz.prog 71 #[.slice (some A) n cap] w (Ret c H w (.own H.length 0 n n) false (H ++ [.arr 1 false 0 cs])) := by
    intro c H w n cs A cap us h hl hb ha hu hs hr
    obtain ⟨zs, rfl⟩ := ints_of ha
    have := ints_vals hu
    subst this
    have hzl : zs.length = n := by simpa using hl
    rw [spot_none hs]
    exact clone_row (f2 := Value.int .i64) (fun c H w x => by simp only [RV]) hzl h (Tryz.slices_Clone_int A.block A.off n cap zs w (by omega) hb fun j hj => hr j _ (by simp [hj]))
  unfold primClone at hp
  split at hp
  · rename_i n full cs
    split at hp
    · rename_i hn0
      cases hp
      subst hn0
      refine ⟨fun g' l h => (by cases h), fun c H w vs v pan H' h hv hr => ?_⟩
      simp only [runN, Option.some.injEq, Prod.mk.injEq] at hr
      obtain ⟨rfl, rfl, rfl⟩ := hr
      obtain ⟨y, rfl, h1⟩ := one_of hv
      simp only [RV] at h1
      obtain ⟨A, cap, rfl, _, _, hnil, hcell⟩ := h1
      cases A with
      | none => exact ret_same (x := .slice none 0 0) h (fun w2 => rv_none) (Tryz.slices_Clone_int_nil 0 cap w)
      | some A => exact ret_below (x := .slice (some ⟨w.heap.size, 0, none⟩) 0 0) h (fun w2 => rv_zero) (clone71_zero A cap w)
    · rename_i hn0
      split at hp
      · rename_i hc
        cases hp
        refine ⟨fun g' l h => (by cases h), fun c H w vs v pan H' h hv hr => ?_⟩
        simp only [runN, Option.some.injEq, Prod.mk.injEq] at hr
        obtain ⟨rfl, rfl, rfl⟩ := hr
        obtain ⟨y, rfl, h1⟩ := one_of hv
        obtain ⟨A, cap, us, rfl, _, hA, hu, hr2⟩ := sl_rows h h1 (n := n) (cs := cs) rfl
        cases A with
        | none => have := hA rfl; subst this; simp at hc; omega
        | some A => exact call c H w n cs A cap us h hc.1 hc.2.1 hc.2.2 hu ((hr2 A rfl).1 (by omega)) (hr2 A rfl).2
      · cases hp
  · rename_i t off n fin
    split at hp
    · cases hp
    · cases hp
      refine ⟨fun g' l h => (by cases h), fun c H w vs v pan H' h hv hr => ?_⟩
      simp only [runN, Option.map_eq_some_iff, Option.bind_eq_some_iff, Prod.mk.injEq] at hr
      obtain ⟨ob, ⟨ob0, hob, ⟨k, cs⟩, h0, h1⟩, rfl, rfl, rfl⟩ := hr
      split at h1
      · rename_i hc
        cases h1
        obtain ⟨y, rfl, h3⟩ := one_of hv
        simp only [RV] at h3
        obtain ⟨b, q, cap, us, rfl, _, hl, hu, hr2⟩ := own_rows h h3 hob h0
        obtain ⟨rfl, hc2, hc3⟩ := hc
        exact call c H w n cs ⟨b, q, none⟩ cap us h (by omega) hc2 hc3 hu rfl hr2
      · cases h1
  · cases hp
theorem ok161 : PrimOk 161 (primClone isS 16) := by
  intro args d hp
  have call : ∀ (c : Ctx) (H : Heap) (w : World) (n : Nat) (cs : List V) (A : Addr) (cap : Nat) (us : List Value), RH c H w → cs.length = n → n * 16 ≤ 140737488355328 → cs.all isS = true → RVs c H w cs us → A.spot = none → w.rangeAt A.block A.off us →
      Calls Tryz.prog 161 #[.slice (some A) n cap] w (Ret c H w (.own H.length 0 n n) false (H ++ [.arr 1 false 0 cs])) := by
    intro c H w n cs A cap us h hl hb ha hu hs hr
    obtain ⟨zs, rfl⟩ := strs_of ha
    have := strs_vals hu
    subst this
    have hzl : zs.length = n := by simpa using hl
    rw [spot_none hs]
    exact clone_row (f2 := Value.string) (fun c H w x => by simp only [RV]) hzl h (Tryz.slices_Clone_string A.block A.off n cap zs w (by omega) hb fun j hj => hr j _ (by simp [hj]))
  unfold primClone at hp
  split at hp
  · rename_i n full cs
    split at hp
    · rename_i hn0
      cases hp
      subst hn0
      refine ⟨fun g' l h => (by cases h), fun c H w vs v pan H' h hv hr => ?_⟩
      simp only [runN, Option.some.injEq, Prod.mk.injEq] at hr
      obtain ⟨rfl, rfl, rfl⟩ := hr
      obtain ⟨y, rfl, h1⟩ := one_of hv
      simp only [RV] at h1
      obtain ⟨A, cap, rfl, _, _, hnil, hcell⟩ := h1
      cases A with
      | none => exact ret_same (x := .slice none 0 0) h (fun w2 => rv_none) (Tryz.slices_Clone_string_nil 0 cap w)
      | some A => exact ret_below (x := .slice (some ⟨w.heap.size, 0, none⟩) 0 0) h (fun w2 => rv_zero) (clone161_zero A cap w)
    · rename_i hn0
      split at hp
      · rename_i hc
        cases hp
        refine ⟨fun g' l h => (by cases h), fun c H w vs v pan H' h hv hr => ?_⟩
        simp only [runN, Option.some.injEq, Prod.mk.injEq] at hr
        obtain ⟨rfl, rfl, rfl⟩ := hr
        obtain ⟨y, rfl, h1⟩ := one_of hv
        obtain ⟨A, cap, us, rfl, _, hA, hu, hr2⟩ := sl_rows h h1 (n := n) (cs := cs) rfl
        cases A with
        | none => have := hA rfl; subst this; simp at hc; omega
        | some A => exact call c H w n cs A cap us h hc.1 hc.2.1 hc.2.2 hu ((hr2 A rfl).1 (by omega)) (hr2 A rfl).2
      · cases hp
  · rename_i t off n fin
    split at hp
    · cases hp
    · cases hp
      refine ⟨fun g' l h => (by cases h), fun c H w vs v pan H' h hv hr => ?_⟩
      simp only [runN, Option.map_eq_some_iff, Option.bind_eq_some_iff, Prod.mk.injEq] at hr
      obtain ⟨ob, ⟨ob0, hob, ⟨k, cs⟩, h0, h1⟩, rfl, rfl, rfl⟩ := hr
      split at h1
      · rename_i hc
        cases h1
        obtain ⟨y, rfl, h3⟩ := one_of hv
        simp only [RV] at h3
        obtain ⟨b, q, cap, us, rfl, _, hl, hu, hr2⟩ := own_rows h h3 hob h0
        obtain ⟨rfl, hc2, hc3⟩ := hc
        exact call c H w n cs ⟨b, q, none⟩ cap us h (by omega) hc2 hc3 hu rfl hr2
      · cases h1
  · cases hp
theorem isF_of {g : FuncId} {fn : Func} (h : Tryz.prog.funcs[g]? = some fn) {cd : Code} (hb : fn.body = some cd) (hn : (fn.name == "runtime.NumGoroutine") = false) : ∃ fn c, Tryz.prog.funcs[g]? = some fn ∧ fn.body = some c ∧ (fn.name == "runtime.NumGoroutine") = false := ⟨fn, cd, h, hb, hn⟩
theorem prims_ok : PrimsOk Tryz.prog cfg := by
  intro g p hp
  simp only [cfg] at hp
  split at hp <;> first | (cases hp; done) | skip
  · cases hp; exact ⟨isF_of Tryz.func213 rfl (by kernel_rfl), ok213⟩
  · cases hp; exact ⟨isF_of Tryz.func219 rfl (by kernel_rfl), ok219⟩
  · cases hp; exact ⟨isF_of Tryz.func220 rfl (by kernel_rfl), ok220⟩
  · cases hp; exact ⟨isF_of Tryz.func233 rfl (by kernel_rfl), ok233⟩
  · cases hp; exact ⟨isF_of Tryz.func179 rfl (by kernel_rfl), ok179⟩
  · cases hp; exact ⟨isF_of Tryz.func230 rfl (by kernel_rfl), ok230⟩
  · cases hp; exact ⟨isF_of Tryz.func206 rfl (by kernel_rfl), ok206⟩
  · cases hp; exact ⟨isF_of Tryz.func71 rfl (by kernel_rfl), ok71⟩
  · cases hp; exact ⟨isF_of Tryz.func161 rfl (by kernel_rfl), ok161⟩
theorem sound : Sound Tryz.prog cfg where
  T := cfg_T
  K := keys_ok
  F := cfg_F
  prims := prims_ok
  guard := guard_ok
  mixed := by kernel_rfl
theorem calls_W {f : FuncId} {args : List V} {H : Heap} {r : CR} (hr : enter cfg (W cfg good) f args H = some r) {c : Ctx} {w : World} {vs : Array Value} (h : RH c H w) (hv : RVs c H w args vs.toList) :
    Calls Tryz.prog f vs w (Ret c H w r.v r.pan r.H) := by
  obtain ⟨n, hn⟩ := W_enter looked hr
  exact ((call_ok sound range_ok n).ok f args H r hn).2 c w vs h hv
end Go.Av
