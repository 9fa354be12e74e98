/- The row and the card of the law TypesOnes: for every input the law answers true, and each argument reads afterwards as it read before. Conditions: none beyond the hypotheses of each theorem. -/
import Derived.Test.YtdjgjnahfekdhaaGreatDoorR2
import Derived.Test.YtdjgjnahfekdhaaGreatDoorR3
import Derived.Test.YtdjgjnahfekdhaaGreatDoorR4
import Derived.Test.YtdjgjnahfekdhaaGreatDoorR5
set_option linter.unusedSectionVars false
set_option linter.unusedVariables false
set_option linter.unusedSimpArgs false
namespace Go.Proofs.YtdjgjnahfekdhaaGreatDoor.typesOnes
open Go.ChangeShapes Go.WideShapes Go.ChangeAt Go.RowKit Go.Joins
set_option maxRecDepth 100000
theorem said : Rows.TypesOnesSaid :=
  OpenClaim.holds_of_cond 7 Tryz.f7 rfl rfl rfl rfl rfl rfl rfl ⟨rfl, rfl, rfl, rfl, rfl⟩ rfl rfl rfl rfl rfl named7 Tryz.func7 closed7 inst7 wrap7
    (fun os started H enc _ F => by rw [OpenClaim.pre_eq_preRow]; exact lifted os started H enc F)
theorem plain (f : FuncId) (fn : Func) (hf : Tryz.pinned.checked.prog.funcNamed Rows.typesOnesRow.func = some f) (hfn : Tryz.pinned.checked.prog.funcs[f]? = some fn) :
    true = Tryz.pinned.checked.prog.looks [] ∧ ∀ (j : Nat) t, fn.params[j]? = some t → Tryz.pinned.checked.prog.wantsStandIn t = false := by
  obtain rfl : f = 7 := Option.some.inj (named7.symm.trans hf) |>.symm
  obtain rfl : fn = Tryz.f7 := (Option.some.inj (Tryz.func7.symm.trans hfn)).symm
  refine ⟨by kernel_rfl, fun j t ht => ?_⟩
  rw [Tryz.params7] at ht
  have hm : t = 34 ∨ t = 34 ∨ t = 64 := by simpa using Array.mem_of_getElem? ht
  rcases hm with rfl | rfl | rfl
  · exact (show Tryz.prog.wantsStandIn 34 = false by kernel_rfl)
  · exact (show Tryz.prog.wantsStandIn 34 = false by kernel_rfl)
  · exact (show Tryz.prog.wantsStandIn 64 = false by kernel_rfl)
theorem card : Rows.TypesOnesCardSaid :=
  Claim7.holds_tied_plain_at .later [] _ _ _ _ said (fun _ h => by cases h) wf7 (fun _ h => by cases h) typesOnes_row_tie rfl ⟨rfl, rfl⟩ main7 rfl plain goes7
end Go.Proofs.YtdjgjnahfekdhaaGreatDoor.typesOnes
namespace Go.Proofs.YtdjgjnahfekdhaaGreatDoor
theorem typesOnes_card : Rows.TypesOnesCardSaid := typesOnes.card
end Go.Proofs.YtdjgjnahfekdhaaGreatDoor
