/- The contracts of slices.IndexFunc and slices.ContainsFunc, at four element types, over any function that is handed over and answers a Bool. -/
import Derived.Test.YtlfopemghafboaaDx2
namespace Go.Proofs.Ytlfopemghafboaa.D
open Go.RowKit Go.Proofs.YtlfopemghafboaaW.PrintWords Go.Proofs.YtlfopemghafboaaW.PrintLast Go.Proofs.YtlfopemghafboaaW.PrintMore

def idxOf {α : Type} (p : α → Bool) (xs : List α) : Int := match xs.findIdx? p with | some i => (i : Int) | none => -1
theorem idxOf_at {α : Type} (p : α → Bool) (xs : List α) (d : α) (j : Nat) (hj : j < xs.length) (h : p (xs.getD j d) = true) (hb : ∀ i, i < j → p (xs.getD i d) = false) : idxOf p xs = j := by
  have e : xs.findIdx? p = some j := by
    rw [List.findIdx?_eq_some_iff_getElem]
    refine ⟨hj, ?_, fun i hi => ?_⟩
    · rw [List.getD_eq_getElem?_getD, List.getElem?_eq_getElem hj] at h; exact h
    · have := hb i hi; rw [List.getD_eq_getElem?_getD, List.getElem?_eq_getElem (by omega)] at this; simpa using this
  unfold idxOf
  rw [e]
theorem idxOf_none {α : Type} (p : α → Bool) (xs : List α) (d : α) (hb : ∀ i, i < xs.length → p (xs.getD i d) = false) : idxOf p xs = -1 := by
  have e : xs.findIdx? p = none := by
    rw [List.findIdx?_eq_none_iff]
    intro x hx
    obtain ⟨i, hi, rfl⟩ := List.getElem_of_mem hx
    have := hb i hi
    rwa [List.getD_eq_getElem?_getD, List.getElem?_eq_getElem hi] at this
  unfold idxOf
  rw [e]
theorem idxOf_any {α : Type} (p : α → Bool) (xs : List α) : decide (0 ≤ idxOf p xs) = xs.any p := by
  unfold idxOf
  cases h : xs.findIdx? p with
  | none =>
    rw [List.findIdx?_eq_none_iff] at h
    have : xs.any p = false := by simpa using h
    simp [this]
  | some i =>
    rw [List.findIdx?_eq_some_iff_getElem] at h
    obtain ⟨hi, hp, _⟩ := h
    have : xs.any p = true := List.any_eq_true.2 ⟨_, List.getElem_mem hi, hp⟩
    simp [this]

/-- What a function that is handed over answers: a Bool, and nothing old is written. -/
def Tells (k : Nat) (cap : Array Value) (w : World) (arg : Value) (b : Bool) : Prop :=
  ∀ W, Below w.heap.size w W → Calls Try.prog k (#[arg] ++ cap) W fun e W' => e = .returned (.bool b) ∧ Below W.heap.size W W'
theorem Tells.go {k : Nat} {cap : Array Value} {w W : World} {arg : Value} {b : Bool} (h : Tells k cap w arg b) (hb : Below w.heap.size w W) : Calls Try.prog k (#[arg] ++ cap) W fun e W' => e = .returned (.bool b) ∧ Below w.heap.size w W' :=
  (h W hb).mono fun _ _ h' => ⟨h'.1, below_step hb h'.2⟩

set_option maxHeartbeats 1000000 in
set_option maxRecDepth 100000 in
theorem idx_rate (k : Nat) (hE : ∀ args w, (callFunc k args).run Try.prog w = .ok (.enter k args) w) (cap : Array Value) (p : S42 → Bool) (A : Option Addr) (c : Nat) (xs : List S42) (w : World) (hr : Kd.C k42 w A xs.length xs)
    (ht : ∀ i : Int, 0 ≤ i → i < xs.length → Tells k cap w (.agg #[.int .i64 (rd_T42 xs i).f0, .int .i64 (rd_T42 xs i).f1]) (p (rd_T42 xs i))) :
    Calls Try.prog 93 #[.slice A xs.length c, .func (.func k) #[] cap] w fun e w' => e = .returned (.int .i64 (idxOf p xs)) ∧ Below w.heap.size w w' := by
  have HR := Aside0.mk hr
  have HT := Aside0.mk ht
  clear hr ht
  have hm : xs.length ≤ 9223372036854775807 := HR.out.2.1
  go_enter Try.func93, Try.ntmps93
  go_wp2_with fail
  go_loopw [5, 8] (fun _ v wr => ∃ j : Nat, v = .int .i64 j ∧ j ≤ xs.length ∧ Aside0 (∀ i : Nat, i < j → p (rd_T42 xs i) = false) ∧ Aside0 (Below w.heap.size w wr)) (fun _ v _ => xs.length - (intOf v).toNat)
  case atStart => exact ⟨0, rfl, by omega, ⟨fun i h => absurd h (by omega)⟩, ⟨Below.refl _ _⟩⟩
  case round =>
    obtain ⟨j, rfl, hj, HN, HB⟩ := hrel
    by_cases hlt : j < xs.length
    · have hltb : decide ((j : Int) < (xs.length : Int)) = true := by simpa using hlt
      obtain ⟨ad, e1, h0, h1⟩ := at_T42 HR.out (j : Int) (by omega) (by omega)
      cases e1
      replace h0 := (HB.out.cell (World.block_lt_of_cell? w _ h0)).trans h0
      replace h1 := (HB.out.cell (World.block_lt_of_cell? w _ h1)).trans h1
      simp only [Int.toNat_natCast] at h0 h1
      go_wp2_with fail
      refine ((HT.out (j : Int) (by omega) (by omega)).go HB.out).mono ?_
      rintro e w1 ⟨rfl, hb⟩
      have HB1 := Aside0.mk hb
      clear hb HB
      cases hp : p (rd_T42 xs (j : Int))
      · go_wp2_with fail
        go_roundw
        case rel =>
          refine ⟨j + 1, by go_num, by omega, ⟨fun i hi => ?_⟩, HB1⟩
          rcases Nat.lt_or_ge i j with h | h
          · exact HN.out i h
          · have e : i = j := by omega
            rw [e]
            exact hp
        case measure => simp [intOf]; omega
      · go_wp2_with fail
        go_ret
        exact ⟨by rw [idxOf_at p xs z42 j hlt hp HN.out]; rfl, HB1.out⟩
    · have hltb : decide ((j : Int) < (xs.length : Int)) = false := by simpa using hlt
      go_wp2_with fail
      go_ret
      exact ⟨by rw [idxOf_none p xs z42 (fun i hi => HN.out i (by omega))]; rfl, HB.out⟩

set_option maxHeartbeats 1000000 in
set_option maxRecDepth 100000 in
theorem any_rate (k : Nat) (hE : ∀ args w, (callFunc k args).run Try.prog w = .ok (.enter k args) w) (cap : Array Value) (p : S42 → Bool) (A : Option Addr) (c : Nat) (xs : List S42) (w : World) (hr : Kd.C k42 w A xs.length xs)
    (ht : ∀ i : Int, 0 ≤ i → i < xs.length → Tells k cap w (.agg #[.int .i64 (rd_T42 xs i).f0, .int .i64 (rd_T42 xs i).f1]) (p (rd_T42 xs i))) :
    Calls Try.prog 82 #[.slice A xs.length c, .func (.func k) #[] cap] w fun e w' => e = .returned (.bool (xs.any p)) ∧ Below w.heap.size w w' := by
  have HI := Aside0.mk (idx_rate k hE cap p A c xs w hr ht)
  rw [← idxOf_any]
  clear hr ht hE
  go_enter Try.func82, Try.ntmps82
  go_wp2_with fail
  refine HI.out.mono ?_
  rintro e w1 ⟨rfl, hb⟩
  clear HI
  have HB := Aside0.mk hb
  clear hb
  go_wp2_with fail
  go_ret
  exact ⟨rfl, HB.out⟩

set_option maxHeartbeats 1000000 in
set_option maxRecDepth 100000 in
theorem idx_int (k : Nat) (hE : ∀ args w, (callFunc k args).run Try.prog w = .ok (.enter k args) w) (cap : Array Value) (p : Int → Bool) (A : Option Addr) (c : Nat) (xs : List Int) (w : World) (hr : Kd.C (Kd.int .i64) w A xs.length xs)
    (ht : ∀ i : Int, 0 ≤ i → i < xs.length → Tells k cap w (.int .i64 (rd xs i)) (p (rd xs i))) :
    Calls Try.prog 95 #[.slice A xs.length c, .func (.func k) #[] cap] w fun e w' => e = .returned (.int .i64 (idxOf p xs)) ∧ Below w.heap.size w w' := by
  have HR := Aside0.mk hr
  have HT := Aside0.mk ht
  clear hr ht
  have hm : xs.length ≤ 9223372036854775807 := HR.out.2.1
  go_enter Try.func95, Try.ntmps95
  go_wp2_with fail
  go_loopw [5, 8] (fun _ v wr => ∃ j : Nat, v = .int .i64 j ∧ j ≤ xs.length ∧ Aside0 (∀ i : Nat, i < j → p (rd xs i) = false) ∧ Aside0 (Below w.heap.size w wr)) (fun _ v _ => xs.length - (intOf v).toNat)
  case atStart => exact ⟨0, rfl, by omega, ⟨fun i h => absurd h (by omega)⟩, ⟨Below.refl _ _⟩⟩
  case round =>
    obtain ⟨j, rfl, hj, HN, HB⟩ := hrel
    by_cases hlt : j < xs.length
    · have hltb : decide ((j : Int) < (xs.length : Int)) = true := by simpa using hlt
      obtain ⟨ad, e1, h0⟩ := Kd.at_int HR.out (j : Int) (by omega) (by omega)
      cases e1
      replace h0 := (HB.out.cell (World.block_lt_of_cell? w _ h0)).trans h0
      simp only [Int.toNat_natCast] at h0
      go_wp2_with fail
      refine ((HT.out (j : Int) (by omega) (by omega)).go HB.out).mono ?_
      rintro e w1 ⟨rfl, hb⟩
      have HB1 := Aside0.mk hb
      clear hb HB
      cases hp : p (rd xs (j : Int))
      · go_wp2_with fail
        go_roundw
        case rel =>
          refine ⟨j + 1, by go_num, by omega, ⟨fun i hi => ?_⟩, HB1⟩
          rcases Nat.lt_or_ge i j with h | h
          · exact HN.out i h
          · have e : i = j := by omega
            rw [e]
            exact hp
        case measure => simp [intOf]; omega
      · go_wp2_with fail
        go_ret
        exact ⟨by rw [idxOf_at p xs 0 j hlt hp HN.out]; rfl, HB1.out⟩
    · have hltb : decide ((j : Int) < (xs.length : Int)) = false := by simpa using hlt
      go_wp2_with fail
      go_ret
      exact ⟨by rw [idxOf_none p xs 0 (fun i hi => HN.out i (by omega))]; rfl, HB.out⟩

set_option maxHeartbeats 1000000 in
set_option maxRecDepth 100000 in
theorem any_int (k : Nat) (hE : ∀ args w, (callFunc k args).run Try.prog w = .ok (.enter k args) w) (cap : Array Value) (p : Int → Bool) (A : Option Addr) (c : Nat) (xs : List Int) (w : World) (hr : Kd.C (Kd.int .i64) w A xs.length xs)
    (ht : ∀ i : Int, 0 ≤ i → i < xs.length → Tells k cap w (.int .i64 (rd xs i)) (p (rd xs i))) :
    Calls Try.prog 87 #[.slice A xs.length c, .func (.func k) #[] cap] w fun e w' => e = .returned (.bool (xs.any p)) ∧ Below w.heap.size w w' := by
  have HI := Aside0.mk (idx_int k hE cap p A c xs w hr ht)
  rw [← idxOf_any]
  clear hr ht hE
  go_enter Try.func87, Try.ntmps87
  go_wp2_with fail
  refine HI.out.mono ?_
  rintro e w1 ⟨rfl, hb⟩
  clear HI
  have HB := Aside0.mk hb
  clear hb
  go_wp2_with fail
  go_ret
  exact ⟨rfl, HB.out⟩

set_option maxHeartbeats 1000000 in
set_option maxRecDepth 100000 in
theorem idx_dem (k : Nat) (hE : ∀ args w, (callFunc k args).run Try.prog w = .ok (.enter k args) w) (cap : Array Value) (p : S56 → Bool) (A : Option Addr) (c : Nat) (xs : List S56) (w : World) (hr : Kd.C k56 w A xs.length xs)
    (ht : ∀ i : Int, 0 ≤ i → i < xs.length → Tells k cap w (.agg #[.int .i64 (rd_T56 xs i).f0, .int .i64 (rd_T56 xs i).f1, .int .i64 (rd_T56 xs i).f2, .int .i64 (rd_T56 xs i).f3]) (p (rd_T56 xs i))) :
    Calls Try.prog 70 #[.slice A xs.length c, .func (.func k) #[] cap] w fun e w' => e = .returned (.int .i64 (idxOf p xs)) ∧ Below w.heap.size w w' := by
  have HR := Aside0.mk hr
  have HT := Aside0.mk ht
  clear hr ht
  have hm : xs.length ≤ 9223372036854775807 := HR.out.2.1
  go_enter Try.func70, Try.ntmps70
  go_wp2_with fail
  go_loopw [5, 8] (fun _ v wr => ∃ j : Nat, v = .int .i64 j ∧ j ≤ xs.length ∧ Aside0 (∀ i : Nat, i < j → p (rd_T56 xs i) = false) ∧ Aside0 (Below w.heap.size w wr)) (fun _ v _ => xs.length - (intOf v).toNat)
  case atStart => exact ⟨0, rfl, by omega, ⟨fun i h => absurd h (by omega)⟩, ⟨Below.refl _ _⟩⟩
  case round =>
    obtain ⟨j, rfl, hj, HN, HB⟩ := hrel
    by_cases hlt : j < xs.length
    · have hltb : decide ((j : Int) < (xs.length : Int)) = true := by simpa using hlt
      obtain ⟨ad, e1, h0, h1, h2, h3⟩ := at_T56 HR.out (j : Int) (by omega) (by omega)
      cases e1
      replace h0 := (HB.out.cell (World.block_lt_of_cell? w _ h0)).trans h0
      replace h1 := (HB.out.cell (World.block_lt_of_cell? w _ h1)).trans h1
      replace h2 := (HB.out.cell (World.block_lt_of_cell? w _ h2)).trans h2
      replace h3 := (HB.out.cell (World.block_lt_of_cell? w _ h3)).trans h3
      simp only [Int.toNat_natCast] at h0 h1 h2 h3
      go_wp2_with fail
      refine ((HT.out (j : Int) (by omega) (by omega)).go HB.out).mono ?_
      rintro e w1 ⟨rfl, hb⟩
      have HB1 := Aside0.mk hb
      clear hb HB
      cases hp : p (rd_T56 xs (j : Int))
      · go_wp2_with fail
        go_roundw
        case rel =>
          refine ⟨j + 1, by go_num, by omega, ⟨fun i hi => ?_⟩, HB1⟩
          rcases Nat.lt_or_ge i j with h | h
          · exact HN.out i h
          · have e : i = j := by omega
            rw [e]
            exact hp
        case measure => simp [intOf]; omega
      · go_wp2_with fail
        go_ret
        exact ⟨by rw [idxOf_at p xs z56 j hlt hp HN.out]; rfl, HB1.out⟩
    · have hltb : decide ((j : Int) < (xs.length : Int)) = false := by simpa using hlt
      go_wp2_with fail
      go_ret
      exact ⟨by rw [idxOf_none p xs z56 (fun i hi => HN.out i (by omega))]; rfl, HB.out⟩

set_option maxHeartbeats 1000000 in
set_option maxRecDepth 100000 in
theorem any_dem (k : Nat) (hE : ∀ args w, (callFunc k args).run Try.prog w = .ok (.enter k args) w) (cap : Array Value) (p : S56 → Bool) (A : Option Addr) (c : Nat) (xs : List S56) (w : World) (hr : Kd.C k56 w A xs.length xs)
    (ht : ∀ i : Int, 0 ≤ i → i < xs.length → Tells k cap w (.agg #[.int .i64 (rd_T56 xs i).f0, .int .i64 (rd_T56 xs i).f1, .int .i64 (rd_T56 xs i).f2, .int .i64 (rd_T56 xs i).f3]) (p (rd_T56 xs i))) :
    Calls Try.prog 67 #[.slice A xs.length c, .func (.func k) #[] cap] w fun e w' => e = .returned (.bool (xs.any p)) ∧ Below w.heap.size w w' := by
  have HI := Aside0.mk (idx_dem k hE cap p A c xs w hr ht)
  rw [← idxOf_any]
  clear hr ht hE
  go_enter Try.func67, Try.ntmps67
  go_wp2_with fail
  refine HI.out.mono ?_
  rintro e w1 ⟨rfl, hb⟩
  clear HI
  have HB := Aside0.mk hb
  clear hb
  go_wp2_with fail
  go_ret
  exact ⟨rfl, HB.out⟩

end Go.Proofs.Ytlfopemghafboaa.D
