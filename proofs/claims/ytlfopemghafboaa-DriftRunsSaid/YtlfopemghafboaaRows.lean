/-
  No cell of these rows narrows 'for every input' (looked for: loops, veiled, ifaces, maps, wideKeys, modest, calm, conditions, laid).
  DERIVED. THE GIVEN ROWS OF THIS SEAT. 12 by the template 'for every input the law returns true; each argument reads behind the call as it read before'; 0 by the template 'total and deterministic' (their statements: YtlfopemghafboaaTotals.lean).
  GIVEN WITH THE SEED: the statements are not yours to turn. If you find one false, say at which input.
  Laid BY PROGRAM, IN A SANDBOX (cutbox-rows.mjs): the forced cells as the released guide's own fill.sh prints them over the translation 21fb276d3c67eabd… (all of the seat's roots in one cut). By AI agents, Wed Nov 11 2026. No macro, syntax, notation, axiom, sorry.
-/
import Derived.Test.YtlfopemghafboaaChecked
import GoSem.Claim
import GoSem.ClaimJoined
import GoSem.ClaimMapViews
import Derived.JoinedTies
import Derived.KernelRfl
namespace Go.Proofs.Ytlfopemghafboaa
/- THE CELL 'sum', in the pinned program and in every row, IS THE sha256 OF THE DUMP (.gsa) THAT YtlfopemghafboaaProg.lean LOADS. Nothing in Lean hashes anything: it is a label: what it is worth is what the hold of that sum in a sandbox is worth. -/
noncomputable def Try.pinned : Pinned := { name := "ytlfopemghafboaa", sum := "21fb276d3c67eabd57aa2c2b0a59657363d93355b1849395459a94b407e52fce", checked := Try.checked }
namespace Rows
def none {H : Type} : Left H := { results := [], args := [] }

/-- 'madrigallaw31.DriftTights': WHATEVER THE INPUT: true; the input reads as it did. -/
def driftTightsSpec : ChangeSpec := { name := "driftTights", fn := fun _ => fun
  | [d1, d2, d3, d4] => { results := [.lit (.bool true)], args := [d1, d2, d3, d4] }
  | _ => none }
def driftTightsRow : OpenClaim := { program := "ytlfopemghafboaa", sum := "21fb276d3c67eabd57aa2c2b0a59657363d93355b1849395459a94b407e52fce", func := "madrigal/madrigallaw31.DriftTights", spec := "driftTights", unfollowed := true, recurses := true, apart := false }
def DriftTightsSaid : Prop := driftTightsRow.holds Try.pinned (OpenSpec.ofChange driftTightsSpec)

/-- ITS FALSE NEIGHBOUR: 'it returns false'. Refute it at one input. -/
def driftTightsWrong : ChangeSpec := { name := "driftTights", fn := fun _ => fun
  | [d1, d2, d3, d4] => { results := [.lit (.bool false)], args := [d1, d2, d3, d4] }
  | _ => none }
def DriftTightsWrongFalsely : Prop := driftTightsRow.holds Try.pinned (OpenSpec.ofChange driftTightsWrong)

/-- 'madrigallaw31.DriftNarrow': WHATEVER THE INPUT: true; the input reads as it did. -/
def driftNarrowSpec : ChangeSpec := { name := "driftNarrow", fn := fun _ => fun
  | [d1, d2, d3, d4, d5] => { results := [.lit (.bool true)], args := [d1, d2, d3, d4, d5] }
  | _ => none }
def driftNarrowRow : OpenClaim := { program := "ytlfopemghafboaa", sum := "21fb276d3c67eabd57aa2c2b0a59657363d93355b1849395459a94b407e52fce", func := "madrigal/madrigallaw31.DriftNarrow", spec := "driftNarrow", unfollowed := true, recurses := true, apart := false }
def DriftNarrowSaid : Prop := driftNarrowRow.holds Try.pinned (OpenSpec.ofChange driftNarrowSpec)

/-- ITS FALSE NEIGHBOUR: 'it returns false'. Refute it at one input. -/
def driftNarrowWrong : ChangeSpec := { name := "driftNarrow", fn := fun _ => fun
  | [d1, d2, d3, d4, d5] => { results := [.lit (.bool false)], args := [d1, d2, d3, d4, d5] }
  | _ => none }
def DriftNarrowWrongFalsely : Prop := driftNarrowRow.holds Try.pinned (OpenSpec.ofChange driftNarrowWrong)

/-- 'madrigallaw31.DriftChains': WHATEVER THE INPUT: true; the input reads as it did. -/
def driftChainsSpec : ChangeSpec := { name := "driftChains", fn := fun _ => fun
  | [d1, d2, d3, d4] => { results := [.lit (.bool true)], args := [d1, d2, d3, d4] }
  | _ => none }
def driftChainsRow : OpenClaim := { program := "ytlfopemghafboaa", sum := "21fb276d3c67eabd57aa2c2b0a59657363d93355b1849395459a94b407e52fce", func := "madrigal/madrigallaw31.DriftChains", spec := "driftChains", unfollowed := true, recurses := true, apart := false }
def DriftChainsSaid : Prop := driftChainsRow.holds Try.pinned (OpenSpec.ofChange driftChainsSpec)

/-- ITS FALSE NEIGHBOUR: 'it returns false'. Refute it at one input. -/
def driftChainsWrong : ChangeSpec := { name := "driftChains", fn := fun _ => fun
  | [d1, d2, d3, d4] => { results := [.lit (.bool false)], args := [d1, d2, d3, d4] }
  | _ => none }
def DriftChainsWrongFalsely : Prop := driftChainsRow.holds Try.pinned (OpenSpec.ofChange driftChainsWrong)

/-- 'madrigallaw31.DriftBreaches': WHATEVER THE INPUT: true; the input reads as it did. -/
def driftBreachesSpec : ChangeSpec := { name := "driftBreaches", fn := fun _ => fun
  | [d1, d2] => { results := [.lit (.bool true)], args := [d1, d2] }
  | _ => none }
def driftBreachesRow : OpenClaim := { program := "ytlfopemghafboaa", sum := "21fb276d3c67eabd57aa2c2b0a59657363d93355b1849395459a94b407e52fce", func := "madrigal/madrigallaw31.DriftBreaches", spec := "driftBreaches", unfollowed := true, recurses := true, apart := false }
def DriftBreachesSaid : Prop := driftBreachesRow.holds Try.pinned (OpenSpec.ofChange driftBreachesSpec)

/-- ITS FALSE NEIGHBOUR: 'it returns false'. Refute it at one input. -/
def driftBreachesWrong : ChangeSpec := { name := "driftBreaches", fn := fun _ => fun
  | [d1, d2] => { results := [.lit (.bool false)], args := [d1, d2] }
  | _ => none }
def DriftBreachesWrongFalsely : Prop := driftBreachesRow.holds Try.pinned (OpenSpec.ofChange driftBreachesWrong)

/-- 'madrigallaw31.DriftClocks': WHATEVER THE INPUT: true; the input reads as it did. -/
def driftClocksSpec : ChangeSpec := { name := "driftClocks", fn := fun _ => fun
  | [d1, d2, d3, d4, d5] => { results := [.lit (.bool true)], args := [d1, d2, d3, d4, d5] }
  | _ => none }
def driftClocksRow : OpenClaim := { program := "ytlfopemghafboaa", sum := "21fb276d3c67eabd57aa2c2b0a59657363d93355b1849395459a94b407e52fce", func := "madrigal/madrigallaw31.DriftClocks", spec := "driftClocks", unfollowed := true, recurses := true, apart := false }
def DriftClocksSaid : Prop := driftClocksRow.holds Try.pinned (OpenSpec.ofChange driftClocksSpec)

/-- ITS FALSE NEIGHBOUR: 'it returns false'. Refute it at one input. -/
def driftClocksWrong : ChangeSpec := { name := "driftClocks", fn := fun _ => fun
  | [d1, d2, d3, d4, d5] => { results := [.lit (.bool false)], args := [d1, d2, d3, d4, d5] }
  | _ => none }
def DriftClocksWrongFalsely : Prop := driftClocksRow.holds Try.pinned (OpenSpec.ofChange driftClocksWrong)

/-- 'madrigallaw31.DriftPlans': WHATEVER THE INPUT: true; the input reads as it did. -/
def driftPlansSpec : ChangeSpec := { name := "driftPlans", fn := fun _ => fun
  | [d1, d2] => { results := [.lit (.bool true)], args := [d1, d2] }
  | _ => none }
def driftPlansRow : OpenClaim := { program := "ytlfopemghafboaa", sum := "21fb276d3c67eabd57aa2c2b0a59657363d93355b1849395459a94b407e52fce", func := "madrigal/madrigallaw31.DriftPlans", spec := "driftPlans", unfollowed := true, recurses := true, apart := false }
def DriftPlansSaid : Prop := driftPlansRow.holds Try.pinned (OpenSpec.ofChange driftPlansSpec)

/-- ITS FALSE NEIGHBOUR: 'it returns false'. Refute it at one input. -/
def driftPlansWrong : ChangeSpec := { name := "driftPlans", fn := fun _ => fun
  | [d1, d2] => { results := [.lit (.bool false)], args := [d1, d2] }
  | _ => none }
def DriftPlansWrongFalsely : Prop := driftPlansRow.holds Try.pinned (OpenSpec.ofChange driftPlansWrong)

/-- 'madrigallaw31.DriftProofs': WHATEVER THE INPUT: true; the input reads as it did. -/
def driftProofsSpec : ChangeSpec := { name := "driftProofs", fn := fun _ => fun
  | [d1, d2, d3, d4, d5, d6] => { results := [.lit (.bool true)], args := [d1, d2, d3, d4, d5, d6] }
  | _ => none }
def driftProofsRow : OpenClaim := { program := "ytlfopemghafboaa", sum := "21fb276d3c67eabd57aa2c2b0a59657363d93355b1849395459a94b407e52fce", func := "madrigal/madrigallaw31.DriftProofs", spec := "driftProofs", unfollowed := true, recurses := true, apart := false }
def DriftProofsSaid : Prop := driftProofsRow.holds Try.pinned (OpenSpec.ofChange driftProofsSpec)

/-- ITS FALSE NEIGHBOUR: 'it returns false'. Refute it at one input. -/
def driftProofsWrong : ChangeSpec := { name := "driftProofs", fn := fun _ => fun
  | [d1, d2, d3, d4, d5, d6] => { results := [.lit (.bool false)], args := [d1, d2, d3, d4, d5, d6] }
  | _ => none }
def DriftProofsWrongFalsely : Prop := driftProofsRow.holds Try.pinned (OpenSpec.ofChange driftProofsWrong)

/-- 'madrigallaw31.DriftDemands': WHATEVER THE INPUT: true; the input reads as it did. -/
def driftDemandsSpec : ChangeSpec := { name := "driftDemands", fn := fun _ => fun
  | [d1, d2, d3, d4, d5] => { results := [.lit (.bool true)], args := [d1, d2, d3, d4, d5] }
  | _ => none }
def driftDemandsRow : OpenClaim := { program := "ytlfopemghafboaa", sum := "21fb276d3c67eabd57aa2c2b0a59657363d93355b1849395459a94b407e52fce", func := "madrigal/madrigallaw31.DriftDemands", spec := "driftDemands", unfollowed := true, recurses := true, apart := false }
def DriftDemandsSaid : Prop := driftDemandsRow.holds Try.pinned (OpenSpec.ofChange driftDemandsSpec)

/-- ITS FALSE NEIGHBOUR: 'it returns false'. Refute it at one input. -/
def driftDemandsWrong : ChangeSpec := { name := "driftDemands", fn := fun _ => fun
  | [d1, d2, d3, d4, d5] => { results := [.lit (.bool false)], args := [d1, d2, d3, d4, d5] }
  | _ => none }
def DriftDemandsWrongFalsely : Prop := driftDemandsRow.holds Try.pinned (OpenSpec.ofChange driftDemandsWrong)

/-- 'madrigallaw31.DriftBetter': WHATEVER THE INPUT: true; the input reads as it did. -/
def driftBetterSpec : ChangeSpec := { name := "driftBetter", fn := fun _ => fun
  | [d1, d2, d3, d4] => { results := [.lit (.bool true)], args := [d1, d2, d3, d4] }
  | _ => none }
def driftBetterRow : OpenClaim := { program := "ytlfopemghafboaa", sum := "21fb276d3c67eabd57aa2c2b0a59657363d93355b1849395459a94b407e52fce", func := "madrigal/madrigallaw31.DriftBetter", spec := "driftBetter", unfollowed := true, recurses := true, apart := false }
def DriftBetterSaid : Prop := driftBetterRow.holds Try.pinned (OpenSpec.ofChange driftBetterSpec)

/-- ITS FALSE NEIGHBOUR: 'it returns false'. Refute it at one input. -/
def driftBetterWrong : ChangeSpec := { name := "driftBetter", fn := fun _ => fun
  | [d1, d2, d3, d4] => { results := [.lit (.bool false)], args := [d1, d2, d3, d4] }
  | _ => none }
def DriftBetterWrongFalsely : Prop := driftBetterRow.holds Try.pinned (OpenSpec.ofChange driftBetterWrong)

/-- 'madrigallaw31.DriftRuns': WHATEVER THE INPUT: true; the input reads as it did. -/
def driftRunsSpec : ChangeSpec := { name := "driftRuns", fn := fun _ => fun
  | [d1, d2, d3] => { results := [.lit (.bool true)], args := [d1, d2, d3] }
  | _ => none }
def driftRunsRow : OpenClaim := { program := "ytlfopemghafboaa", sum := "21fb276d3c67eabd57aa2c2b0a59657363d93355b1849395459a94b407e52fce", func := "madrigal/madrigallaw31.DriftRuns", spec := "driftRuns", unfollowed := true, recurses := true, apart := false }
def DriftRunsSaid : Prop := driftRunsRow.holds Try.pinned (OpenSpec.ofChange driftRunsSpec)

/-- ITS FALSE NEIGHBOUR: 'it returns false'. Refute it at one input. -/
def driftRunsWrong : ChangeSpec := { name := "driftRuns", fn := fun _ => fun
  | [d1, d2, d3] => { results := [.lit (.bool false)], args := [d1, d2, d3] }
  | _ => none }
def DriftRunsWrongFalsely : Prop := driftRunsRow.holds Try.pinned (OpenSpec.ofChange driftRunsWrong)

/-- 'madrigallaw31.DriftClock': WHATEVER THE INPUT: true; the input reads as it did. -/
def driftClockSpec : ChangeSpec := { name := "driftClock", fn := fun _ => fun
  | [d1, d2, d3] => { results := [.lit (.bool true)], args := [d1, d2, d3] }
  | _ => none }
def driftClockRow : OpenClaim := { program := "ytlfopemghafboaa", sum := "21fb276d3c67eabd57aa2c2b0a59657363d93355b1849395459a94b407e52fce", func := "madrigal/madrigallaw31.DriftClock", spec := "driftClock", unfollowed := true, recurses := true, apart := false }
def DriftClockSaid : Prop := driftClockRow.holds Try.pinned (OpenSpec.ofChange driftClockSpec)

/-- ITS FALSE NEIGHBOUR: 'it returns false'. Refute it at one input. -/
def driftClockWrong : ChangeSpec := { name := "driftClock", fn := fun _ => fun
  | [d1, d2, d3] => { results := [.lit (.bool false)], args := [d1, d2, d3] }
  | _ => none }
def DriftClockWrongFalsely : Prop := driftClockRow.holds Try.pinned (OpenSpec.ofChange driftClockWrong)

/-- 'madrigallaw31.DriftEither': WHATEVER THE INPUT: true; the input reads as it did. -/
def driftEitherSpec : ChangeSpec := { name := "driftEither", fn := fun _ => fun
  | [d1, d2] => { results := [.lit (.bool true)], args := [d1, d2] }
  | _ => none }
def driftEitherRow : OpenClaim := { program := "ytlfopemghafboaa", sum := "21fb276d3c67eabd57aa2c2b0a59657363d93355b1849395459a94b407e52fce", func := "madrigal/madrigallaw31.DriftEither", spec := "driftEither", unfollowed := true, recurses := true, apart := false }
def DriftEitherSaid : Prop := driftEitherRow.holds Try.pinned (OpenSpec.ofChange driftEitherSpec)

/-- ITS FALSE NEIGHBOUR: 'it returns false'. Refute it at one input. -/
def driftEitherWrong : ChangeSpec := { name := "driftEither", fn := fun _ => fun
  | [d1, d2] => { results := [.lit (.bool false)], args := [d1, d2] }
  | _ => none }
def DriftEitherWrongFalsely : Prop := driftEitherRow.holds Try.pinned (OpenSpec.ofChange driftEitherWrong)

/- THE SECOND FORM. 'bulk': how many values and letters a reading holds, each counted each time it is reached (what is shared counts as often as it is met; a slice's spare places count too). A statement '..UptoSaid' is the law's where the arguments, and the package variables that the reading takes, are together of bulk at most 1048576: NARROWER than '..Said'. Prove '..Said' where nothing that the law and all that it calls make is longer than what came in: it says more and counts as full. Else prove '..UptoSaid'. A law counts once. -/
mutual
def uptoBulk {H : Type} : DataW H → Nat
  | .lit (.string bytes) => bytes.length + 1
  | .lit _ => 1
  | .nil => 1
  | .ptr d => uptoBulk d + 1
  | .slice elems spare => uptoBulkAll elems + uptoBulkAll spare + 1
  | .agg parts => uptoBulkAll parts + 1
  | .iface _ d => uptoBulk d + 1
  | .map entries => uptoBulkEntries entries + 1
  | .held _ => 1
def uptoBulkAll {H : Type} : List (DataW H) → Nat
  | [] => 0
  | d :: r => uptoBulk d + uptoBulkAll r
def uptoBulkEntries {H : Type} : List (Lit × DataW H) → Nat
  | [] => 0
  | x :: r => uptoBulkEntry x + uptoBulkEntries r
def uptoBulkEntry {H : Type} : Lit × DataW H → Nat
  | (.string bytes, d) => bytes.length + uptoBulk d + 1
  | (_, d) => uptoBulk d + 1
 end
def uptoSmall : (H : Type) → List (DataW H) → Bool := fun _ ds => decide (uptoBulkAll ds ≤ 1048576)
def OpenSpec.upto (s : _root_.Go.ChangeSpec) : _root_.Go.OpenSpec := { _root_.Go.OpenSpec.ofChange s with cond := some uptoSmall }

/-- 'madrigallaw31.DriftTights', WHERE WHAT IT READS IS OF BULK AT MOST 1048576: true; the input reads as it did. -/
def driftTightsUptoRow : OpenClaim := { program := "ytlfopemghafboaa", sum := "21fb276d3c67eabd57aa2c2b0a59657363d93355b1849395459a94b407e52fce", func := "madrigal/madrigallaw31.DriftTights", spec := "driftTights", unfollowed := true, recurses := true, apart := false, narrowed := true }
def DriftTightsUptoSaid : Prop := driftTightsUptoRow.holds Try.pinned (OpenSpec.upto driftTightsSpec)

/-- 'madrigallaw31.DriftNarrow', WHERE WHAT IT READS IS OF BULK AT MOST 1048576: true; the input reads as it did. -/
def driftNarrowUptoRow : OpenClaim := { program := "ytlfopemghafboaa", sum := "21fb276d3c67eabd57aa2c2b0a59657363d93355b1849395459a94b407e52fce", func := "madrigal/madrigallaw31.DriftNarrow", spec := "driftNarrow", unfollowed := true, recurses := true, apart := false, narrowed := true }
def DriftNarrowUptoSaid : Prop := driftNarrowUptoRow.holds Try.pinned (OpenSpec.upto driftNarrowSpec)

/-- 'madrigallaw31.DriftChains', WHERE WHAT IT READS IS OF BULK AT MOST 1048576: true; the input reads as it did. -/
def driftChainsUptoRow : OpenClaim := { program := "ytlfopemghafboaa", sum := "21fb276d3c67eabd57aa2c2b0a59657363d93355b1849395459a94b407e52fce", func := "madrigal/madrigallaw31.DriftChains", spec := "driftChains", unfollowed := true, recurses := true, apart := false, narrowed := true }
def DriftChainsUptoSaid : Prop := driftChainsUptoRow.holds Try.pinned (OpenSpec.upto driftChainsSpec)

/-- 'madrigallaw31.DriftBreaches', WHERE WHAT IT READS IS OF BULK AT MOST 1048576: true; the input reads as it did. -/
def driftBreachesUptoRow : OpenClaim := { program := "ytlfopemghafboaa", sum := "21fb276d3c67eabd57aa2c2b0a59657363d93355b1849395459a94b407e52fce", func := "madrigal/madrigallaw31.DriftBreaches", spec := "driftBreaches", unfollowed := true, recurses := true, apart := false, narrowed := true }
def DriftBreachesUptoSaid : Prop := driftBreachesUptoRow.holds Try.pinned (OpenSpec.upto driftBreachesSpec)

/-- 'madrigallaw31.DriftClocks', WHERE WHAT IT READS IS OF BULK AT MOST 1048576: true; the input reads as it did. -/
def driftClocksUptoRow : OpenClaim := { program := "ytlfopemghafboaa", sum := "21fb276d3c67eabd57aa2c2b0a59657363d93355b1849395459a94b407e52fce", func := "madrigal/madrigallaw31.DriftClocks", spec := "driftClocks", unfollowed := true, recurses := true, apart := false, narrowed := true }
def DriftClocksUptoSaid : Prop := driftClocksUptoRow.holds Try.pinned (OpenSpec.upto driftClocksSpec)

/-- 'madrigallaw31.DriftPlans', WHERE WHAT IT READS IS OF BULK AT MOST 1048576: true; the input reads as it did. -/
def driftPlansUptoRow : OpenClaim := { program := "ytlfopemghafboaa", sum := "21fb276d3c67eabd57aa2c2b0a59657363d93355b1849395459a94b407e52fce", func := "madrigal/madrigallaw31.DriftPlans", spec := "driftPlans", unfollowed := true, recurses := true, apart := false, narrowed := true }
def DriftPlansUptoSaid : Prop := driftPlansUptoRow.holds Try.pinned (OpenSpec.upto driftPlansSpec)

/-- 'madrigallaw31.DriftProofs', WHERE WHAT IT READS IS OF BULK AT MOST 1048576: true; the input reads as it did. -/
def driftProofsUptoRow : OpenClaim := { program := "ytlfopemghafboaa", sum := "21fb276d3c67eabd57aa2c2b0a59657363d93355b1849395459a94b407e52fce", func := "madrigal/madrigallaw31.DriftProofs", spec := "driftProofs", unfollowed := true, recurses := true, apart := false, narrowed := true }
def DriftProofsUptoSaid : Prop := driftProofsUptoRow.holds Try.pinned (OpenSpec.upto driftProofsSpec)

/-- 'madrigallaw31.DriftDemands', WHERE WHAT IT READS IS OF BULK AT MOST 1048576: true; the input reads as it did. -/
def driftDemandsUptoRow : OpenClaim := { program := "ytlfopemghafboaa", sum := "21fb276d3c67eabd57aa2c2b0a59657363d93355b1849395459a94b407e52fce", func := "madrigal/madrigallaw31.DriftDemands", spec := "driftDemands", unfollowed := true, recurses := true, apart := false, narrowed := true }
def DriftDemandsUptoSaid : Prop := driftDemandsUptoRow.holds Try.pinned (OpenSpec.upto driftDemandsSpec)

/-- 'madrigallaw31.DriftBetter', WHERE WHAT IT READS IS OF BULK AT MOST 1048576: true; the input reads as it did. -/
def driftBetterUptoRow : OpenClaim := { program := "ytlfopemghafboaa", sum := "21fb276d3c67eabd57aa2c2b0a59657363d93355b1849395459a94b407e52fce", func := "madrigal/madrigallaw31.DriftBetter", spec := "driftBetter", unfollowed := true, recurses := true, apart := false, narrowed := true }
def DriftBetterUptoSaid : Prop := driftBetterUptoRow.holds Try.pinned (OpenSpec.upto driftBetterSpec)

/-- 'madrigallaw31.DriftRuns', WHERE WHAT IT READS IS OF BULK AT MOST 1048576: true; the input reads as it did. -/
def driftRunsUptoRow : OpenClaim := { program := "ytlfopemghafboaa", sum := "21fb276d3c67eabd57aa2c2b0a59657363d93355b1849395459a94b407e52fce", func := "madrigal/madrigallaw31.DriftRuns", spec := "driftRuns", unfollowed := true, recurses := true, apart := false, narrowed := true }
def DriftRunsUptoSaid : Prop := driftRunsUptoRow.holds Try.pinned (OpenSpec.upto driftRunsSpec)

/-- 'madrigallaw31.DriftClock', WHERE WHAT IT READS IS OF BULK AT MOST 1048576: true; the input reads as it did. -/
def driftClockUptoRow : OpenClaim := { program := "ytlfopemghafboaa", sum := "21fb276d3c67eabd57aa2c2b0a59657363d93355b1849395459a94b407e52fce", func := "madrigal/madrigallaw31.DriftClock", spec := "driftClock", unfollowed := true, recurses := true, apart := false, narrowed := true }
def DriftClockUptoSaid : Prop := driftClockUptoRow.holds Try.pinned (OpenSpec.upto driftClockSpec)

/-- 'madrigallaw31.DriftEither', WHERE WHAT IT READS IS OF BULK AT MOST 1048576: true; the input reads as it did. -/
def driftEitherUptoRow : OpenClaim := { program := "ytlfopemghafboaa", sum := "21fb276d3c67eabd57aa2c2b0a59657363d93355b1849395459a94b407e52fce", func := "madrigal/madrigallaw31.DriftEither", spec := "driftEither", unfollowed := true, recurses := true, apart := false, narrowed := true }
def DriftEitherUptoSaid : Prop := driftEitherUptoRow.holds Try.pinned (OpenSpec.upto driftEitherSpec)

end Rows
end Go.Proofs.Ytlfopemghafboaa
