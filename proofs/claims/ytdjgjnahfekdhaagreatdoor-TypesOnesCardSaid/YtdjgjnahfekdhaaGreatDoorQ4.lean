/- Functions that the evaluator takes as known. Conditions: none beyond the hypotheses of each theorem. -/
import Derived.Test.YtdjgjnahfekdhaaGreatDoorP3
import Derived.Test.YtdjgjnahfekdhaaGreatDoorQ3
import Derived.Test.YtdjgjnahfekdhaaGreatDoorP2
import Derived.Test.YtdjgjnahfekdhaaGreatDoorB1
import Derived.Laws.EntriesVeiled
set_option linter.unusedSectionVars false
set_option linter.unusedVariables false
set_option linter.unusedSimpArgs false
namespace Go.Proofs
open Go.RowKit Go.Av
def badRune (x : Nat) : Bool := decide (x < 33) || decide (126 < x) || decide (0 ≤ Lib.indexByte [40, 41, 44] x.toUInt8)
theorem idx3 (c : UInt8) : decide (0 ≤ Lib.indexByte [40, 41, 44] c) = (decide (c = 40) || decide (c = 41) || decide (c = 44)) := by
  by_cases h1 : c = 40
  · subst h1; decide
  · by_cases h2 : c = 41
    · subst h2; decide
    · by_cases h3 : c = 44
      · subst h3; decide
      · have e1 : ((40 : UInt8) == c) = false := by simpa using fun h => h1 h.symm
        have e2 : ((41 : UInt8) == c) = false := by simpa using fun h => h2 h.symm
        have e3 : ((44 : UInt8) == c) = false := by simpa using fun h => h3 h.symm
        simp [Lib.indexByte, e1, e2, e3, h1, h2, h3]
theorem decode_small (s : ByteArray) (i : Nat) (h : (s.get! i).toNat < 128) : Utf8.decode s i = ((s.get! i).toNat, 1) := by
  unfold Utf8.decode
  simp only [Nat.add_zero]
  rw [if_pos h]
theorem decode_big (s : ByteArray) (i : Nat) (h : ¬ (s.get! i).toNat < 128) : 128 ≤ (Utf8.decode s i).1 := by
  unfold Utf8.decode
  simp only [Nat.add_zero]
  rw [if_neg h]
  repeat' split
  all_goals simp_all [Utf8.runeError] <;> omega
def goodByte (c : UInt8) : Bool := decide (33 ≤ c.toNat) && decide (c.toNat ≤ 126) && decide (c.toNat ≠ 40) && decide (c.toNat ≠ 41) && decide (c.toNat ≠ 44)
theorem bad_byte (c : UInt8) : badRune c.toNat = !goodByte c := by
  unfold badRune goodByte
  have : c.toNat.toUInt8 = c := by simp
  rw [this, idx3]
  have h : ∀ k : UInt8, decide (c = k) = decide (c.toNat = k.toNat) := fun k => by
    by_cases hk : c = k
    · subst hk; simp
    · have : c.toNat ≠ k.toNat := fun h => hk (UInt8.toNat_inj.1 h)
      simp [hk, this]
  rw [h, h, h]
  show (decide (c.toNat < 33) || decide (126 < c.toNat) || (decide (c.toNat = 40) || decide (c.toNat = 41) || decide (c.toNat = 44))) = !(decide (33 ≤ c.toNat) && decide (c.toNat ≤ 126) && decide (c.toNat ≠ 40) && decide (c.toNat ≠ 41) && decide (c.toNat ≠ 44))
  generalize c.toNat = n
  have e1 : decide (n < 33) = !decide (33 ≤ n) := by by_cases h : n < 33 <;> simp [h] <;> omega
  have e2 : decide (126 < n) = !decide (n ≤ 126) := by by_cases h : 126 < n <;> simp [h] <;> omega
  rw [e1, e2]
  cases h1 : decide (33 ≤ n) <;> cases h2 : decide (n ≤ 126) <;> simp [Bool.or_assoc]
theorem idx_bad (s : ByteArray) : ∀ (f pos : Nat), pos ≤ s.size → s.size ≤ pos + f → decide (0 ≤ Lib.idxFuncFrom badRune true s f pos) = !(s.data.toList.drop pos).all goodByte
  | 0, pos, h1, h2 => by
    have : pos = s.size := by omega
    subst this
    have : s.data.toList.drop s.size = [] := List.drop_eq_nil_of_le (by simp)
    rw [this]
    simp [Lib.idxFuncFrom]
  | f + 1, pos, h1, h2 => by
    by_cases hlt : pos < s.size
    · have hl : pos < s.data.toList.length := by simpa using hlt
      have hget : s.get! pos = s.data.toList[pos] := by
        show s.data[pos]! = _
        rw [getElem!_pos s.data pos hlt]
        simp
      rw [List.drop_eq_getElem_cons hl, List.all_cons, ← hget]
      unfold Lib.idxFuncFrom
      rw [if_pos hlt]
      by_cases hs : (s.get! pos).toNat < 128
      · rw [decode_small s pos hs]
        simp only
        rw [bad_byte]
        cases hg : goodByte (s.get! pos)
        · simp
        · simp only [Bool.not_true, Bool.true_and, Bool.false_eq_true, if_false]
          exact idx_bad s f (pos + 1) (by omega) (by omega)
      · have hb := decode_big s pos hs
        have h3 : badRune (Utf8.decode s pos).1 = true := by
          unfold badRune
          have : decide (126 < (Utf8.decode s pos).1) = true := by simpa using by omega
          rw [this]; simp
        rw [h3]
        have h4 : goodByte (s.get! pos) = false := by
          unfold goodByte
          have : decide ((s.get! pos).toNat ≤ 126) = false := by simpa using by omega
          rw [this]; simp
        rw [h4]
        simp
    · have : pos = s.size := by omega
      subst this
      have : s.data.toList.drop s.size = [] := List.drop_eq_nil_of_le (by simp)
      rw [this, Lib.idxFuncFrom_end _ _ _ _ _ hlt]
      simp
theorem isNameB_eq (s : ByteArray) : isNameB s = (decide (1 ≤ s.size) && decide (s.size ≤ 32) && !decide (0 ≤ Lib.idxFunc badRune true s)) := by
  unfold isNameB Lib.idxFunc
  rw [idx_bad s s.size 0 (Nat.zero_le _) (by omega)]
  simp only [List.drop_zero, Bool.not_not]
  rfl
set_option maxHeartbeats 2000000 in
set_option maxRecDepth 100000 in
theorem rune_ok (W : World) (x : Nat) (hx : x ≤ 1114111) : FnGives Tryz.prog 247 #[] #[encR x] (.bool (badRune x)) W := by
  unfold FnGives encR badRune
  by_cases h1 : x < 33
  · have h1b : decide ((x : Int) < 33) = true := by simpa using by omega
    have : decide (x < 33) = true := by simpa using h1
    rw [this]
    show Calls Tryz.prog 247 #[.int .i32 (x : Int)] W _
    go_enter Tryz.func247, Tryz.ntmps247
    go_wp2
    go_ret
    exact ⟨rfl, 0, rfl⟩
  · have h1b : decide ((x : Int) < 33) = false := by simpa using by omega
    have : decide (x < 33) = false := by simpa using h1
    rw [this]
    by_cases h2 : 126 < x
    · have h2b : decide ((x : Int) > 126) = true := by simpa using by omega
      have : decide (126 < x) = true := by simpa using h2
      rw [this]
      show Calls Tryz.prog 247 #[.int .i32 (x : Int)] W _
      go_enter Tryz.func247, Tryz.ntmps247
      go_wp2
      go_ret
      exact ⟨rfl, 0, rfl⟩
    · have h2b : decide ((x : Int) > 126) = false := by simpa using by omega
      have : decide (126 < x) = false := by simpa using h2
      rw [this]
      show Calls Tryz.prog 247 #[.int .i32 (x : Int)] W _
      go_enter Tryz.func247, Tryz.ntmps247
      go_wp2_with (go_at_call 248; refine (Tryz.strings_ContainsRune_ascii _ (x : Int) _ (by omega) (by omega)).mono ?_)
      go_ret
      exact ⟨rfl, 0, rfl⟩
set_option maxHeartbeats 2000000 in
set_option maxRecDepth 100000 in
theorem isName_ok (s : ByteArray) (w : World) : Calls Tryz.prog 213 #[.string s] w fun e w' => e = .returned (.bool (isNameB s)) ∧ Below w.heap.size w w' := by
  rw [isNameB_eq]
  by_cases h1 : s.size < 1
  · have h1b : decide ((s.size : Int) < 1) = true := by simpa using by omega
    have : decide (1 ≤ s.size) = false := decide_eq_false (by omega)
    rw [this]
    go_enter Tryz.func213, Tryz.ntmps213
    go_wp2
    go_ret
    exact ⟨rfl, Below.refl _ _⟩
  · have h1b : decide ((s.size : Int) < 1) = false := by simpa using by omega
    have : decide (1 ≤ s.size) = true := decide_eq_true (by omega)
    rw [this]
    by_cases h2 : 32 < s.size
    · have h2b : decide ((s.size : Int) > 32) = true := by simpa using by omega
      have : decide (s.size ≤ 32) = false := decide_eq_false (by omega)
      rw [this]
      go_enter Tryz.func213, Tryz.ntmps213
      go_wp2
      go_ret
      exact ⟨rfl, Below.refl _ _⟩
    · have h2b : decide ((s.size : Int) > 32) = false := by simpa using by omega
      have : decide (s.size ≤ 32) = true := decide_eq_true (by omega)
      rw [this]
      have e247 : ∀ args w, (callFunc 247 args).run Tryz.prog w = .ok (.enter 247 args) w := enters_of Tryz.func247 (by kernel_rfl) rfl
      go_enter Tryz.func213, Tryz.ntmps213
      go_wp2_with (go_at_call 246; refine (Tryz.strings_ContainsFunc_runes 247 #[] e247 badRune s w (fun W x hx _ => rune_ok W x hx)).mono ?_)
      rintro e w1 ⟨rfl, hb⟩
      go_wp2
      go_ret
      exact ⟨rfl, hb⟩
end Go.Proofs
