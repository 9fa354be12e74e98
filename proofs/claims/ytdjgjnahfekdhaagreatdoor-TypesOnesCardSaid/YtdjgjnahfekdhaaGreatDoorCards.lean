/-
  DERIVED. GIVEN WITH THE SEED: THE CARDS: each row of YtdjgjnahfekdhaaGreatDoorRows.lean that lists a variable, with what it lists TIED to the program's text (the seventh form; the later family's looks); each row that meets fmt, with fmt's text TOLD by the authors' own Lean function (tested against real Go, not proved from fmt's source: count such statements apart). THE CARD IS WHAT COUNTS. Prove the row's statement (the work); the ties are given (YtdjgjnahfekdhaaGreatDoorTie.lean); close each card by the builder's one call (the guide's Derived/Test/ToyasCard.lean, 'card_holds'). Laid BY PROGRAM, IN A SANDBOX (cutbox-door.mjs). By AI agents, Wed Nov 11 2026. No macro, syntax, notation, axiom, sorry.
-/
import Derived.Test.YtdjgjnahfekdhaaGreatDoorRows
import GoSem.ClaimSeven
namespace Go.Proofs.YtdjgjnahfekdhaaGreatDoor
namespace Rows

/-- THE TIED CARD OF 'madrigallaw05.TypesModules'. -/
def typesModulesCard : Claim7 := { stood := { row := typesModulesRow, standIns := [], harness := (true, "4eab83aaf2d0ca1a5989b1e42fa88737c379655a955bfcfa7b25187439ffc77d"), looks := true }, kinds := [], alts := [], laidByText := true, laidKinds := [.data, .data, .data], laidTests := true, laidLooks := .later }
def TypesModulesCardSaid : Prop := Claim7.holds Tryz.pinned (.plain (OpenSpec.ofChange typesModulesSpec)) typesModulesCard

/-- THE TIED CARD OF 'madrigallaw05.TypesBack'. -/
def typesBackCard : Claim7 := { stood := { row := typesBackRow, standIns := [], harness := (true, "4eab83aaf2d0ca1a5989b1e42fa88737c379655a955bfcfa7b25187439ffc77d"), looks := true }, kinds := [], alts := [], laidByText := true, laidKinds := [.data, .data, .data], laidTests := true, laidLooks := .later }
def TypesBackCardSaid : Prop := Claim7.holds Tryz.pinned (.plain (OpenSpec.ofChange typesBackSpec)) typesBackCard

/-- THE TIED CARD OF 'madrigallaw05.TypesDuties'. -/
def typesDutiesCard : Claim7 := { stood := { row := typesDutiesRow, standIns := [], harness := (true, "4eab83aaf2d0ca1a5989b1e42fa88737c379655a955bfcfa7b25187439ffc77d"), looks := true }, kinds := [], alts := [], laidByText := true, laidKinds := [.data, .data, .data], laidTests := true, laidLooks := .later }
def TypesDutiesCardSaid : Prop := Claim7.holds Tryz.pinned (.plain (OpenSpec.ofChange typesDutiesSpec)) typesDutiesCard

/-- THE TIED CARD OF 'madrigallaw05.TypesSums'. -/
def typesSumsCard : Claim7 := { stood := { row := typesSumsRow, standIns := [], harness := (true, "4eab83aaf2d0ca1a5989b1e42fa88737c379655a955bfcfa7b25187439ffc77d"), looks := true }, kinds := [], alts := [], laidByText := true, laidKinds := [.data, .data, .data], laidTests := true, laidLooks := .later }
def TypesSumsCardSaid : Prop := Claim7.holds Tryz.pinned (.plain (OpenSpec.ofChange typesSumsSpec)) typesSumsCard

/-- THE TIED CARD OF 'madrigallaw05.TypesOnes'. -/
def typesOnesCard : Claim7 := { stood := { row := typesOnesRow, standIns := [], harness := (true, "4eab83aaf2d0ca1a5989b1e42fa88737c379655a955bfcfa7b25187439ffc77d"), looks := true }, kinds := [], alts := [], laidByText := true, laidKinds := [.data, .data, .data], laidTests := true, laidLooks := .later }
def TypesOnesCardSaid : Prop := Claim7.holds Tryz.pinned (.plain (OpenSpec.ofChange typesOnesSpec)) typesOnesCard

/-- THE TIED CARD OF 'madrigallaw05.TypesKept'. -/
def typesKeptCard : Claim7 := { stood := { row := typesKeptRow, standIns := [], harness := (true, "4eab83aaf2d0ca1a5989b1e42fa88737c379655a955bfcfa7b25187439ffc77d"), looks := true }, kinds := [], alts := [], laidByText := true, laidKinds := [.data, .data, .data], laidTests := true, laidLooks := .later }
def TypesKeptCardSaid : Prop := Claim7.holds Tryz.pinned (.plain (OpenSpec.ofChange typesKeptSpec)) typesKeptCard

/-- THE TIED CARD OF 'madrigallaw05.TypesNames'. -/
def typesNamesCard : Claim7 := { stood := { row := typesNamesRow, standIns := [], harness := (true, "4eab83aaf2d0ca1a5989b1e42fa88737c379655a955bfcfa7b25187439ffc77d"), looks := true }, kinds := [], alts := [], laidByText := true, laidKinds := [.data, .data, .data], laidTests := true, laidLooks := .later }
def TypesNamesCardSaid : Prop := Claim7.holds Tryz.pinned (.plain (OpenSpec.ofChange typesNamesSpec)) typesNamesCard

/-- THE TIED CARD OF 'madrigallaw05.TypesImages'. -/
def typesImagesCard : Claim7 := { stood := { row := typesImagesRow, standIns := [], harness := (true, "4eab83aaf2d0ca1a5989b1e42fa88737c379655a955bfcfa7b25187439ffc77d"), looks := true }, kinds := [], alts := [], laidByText := true, laidKinds := [.data, .data, .data], laidTests := true, laidLooks := .later }
def TypesImagesCardSaid : Prop := Claim7.holds Tryz.pinned (.plain (OpenSpec.ofChange typesImagesSpec)) typesImagesCard

/-- THE TIED CARD OF 'madrigallaw05.TypesMorphs'. -/
def typesMorphsCard : Claim7 := { stood := { row := typesMorphsRow, standIns := [], harness := (true, "4eab83aaf2d0ca1a5989b1e42fa88737c379655a955bfcfa7b25187439ffc77d"), looks := true }, kinds := [], alts := [], laidByText := true, laidKinds := [.data, .data, .data], laidTests := true, laidLooks := .later }
def TypesMorphsCardSaid : Prop := Claim7.holds Tryz.pinned (.plain (OpenSpec.ofChange typesMorphsSpec)) typesMorphsCard

/-- THE TIED CARD OF 'madrigallaw05.TypesItself'. -/
def typesItselfCard : Claim7 := { stood := { row := typesItselfRow, standIns := [], harness := (true, "4eab83aaf2d0ca1a5989b1e42fa88737c379655a955bfcfa7b25187439ffc77d"), looks := true }, kinds := [], alts := [], laidByText := true, laidKinds := [.data, .data, .data], laidTests := true, laidLooks := .later }
def TypesItselfCardSaid : Prop := Claim7.holds Tryz.pinned (.plain (OpenSpec.ofChange typesItselfSpec)) typesItselfCard

/-- THE TIED CARD OF 'madrigallaw05.TypesOrder'. -/
def typesOrderCard : Claim7 := { stood := { row := typesOrderRow, standIns := [], harness := (true, "4eab83aaf2d0ca1a5989b1e42fa88737c379655a955bfcfa7b25187439ffc77d"), looks := true }, kinds := [], alts := [], laidByText := true, laidKinds := [.data, .data, .data], laidTests := true, laidLooks := .later }
def TypesOrderCardSaid : Prop := Claim7.holds Tryz.pinned (.plain (OpenSpec.ofChange typesOrderSpec)) typesOrderCard

/-- THE TIED CARD OF 'madrigallaw05.TypesSumLaws'. -/
def typesSumLawsCard : Claim7 := { stood := { row := typesSumLawsRow, standIns := [], harness := (true, "4eab83aaf2d0ca1a5989b1e42fa88737c379655a955bfcfa7b25187439ffc77d"), looks := true }, kinds := [], alts := [], laidByText := true, laidKinds := [.data, .data, .data], laidTests := true, laidLooks := .later }
def TypesSumLawsCardSaid : Prop := Claim7.holds Tryz.pinned (.plain (OpenSpec.ofChange typesSumLawsSpec)) typesSumLawsCard

/-- THE SECOND FORM's CARD OF 'madrigallaw05.TypesModules'. -/
def typesModulesUptoCard : Claim7 := { stood := { row := typesModulesUptoRow, standIns := [], harness := (true, "4eab83aaf2d0ca1a5989b1e42fa88737c379655a955bfcfa7b25187439ffc77d"), looks := true }, kinds := [], alts := [], laidByText := true, laidKinds := [.data, .data, .data], laidTests := true, laidLooks := .later }
def TypesModulesUptoCardSaid : Prop := Claim7.holds Tryz.pinned (.plain (OpenSpec.upto typesModulesSpec)) typesModulesUptoCard

/-- THE SECOND FORM's CARD OF 'madrigallaw05.TypesBack'. -/
def typesBackUptoCard : Claim7 := { stood := { row := typesBackUptoRow, standIns := [], harness := (true, "4eab83aaf2d0ca1a5989b1e42fa88737c379655a955bfcfa7b25187439ffc77d"), looks := true }, kinds := [], alts := [], laidByText := true, laidKinds := [.data, .data, .data], laidTests := true, laidLooks := .later }
def TypesBackUptoCardSaid : Prop := Claim7.holds Tryz.pinned (.plain (OpenSpec.upto typesBackSpec)) typesBackUptoCard

/-- THE SECOND FORM's CARD OF 'madrigallaw05.TypesDuties'. -/
def typesDutiesUptoCard : Claim7 := { stood := { row := typesDutiesUptoRow, standIns := [], harness := (true, "4eab83aaf2d0ca1a5989b1e42fa88737c379655a955bfcfa7b25187439ffc77d"), looks := true }, kinds := [], alts := [], laidByText := true, laidKinds := [.data, .data, .data], laidTests := true, laidLooks := .later }
def TypesDutiesUptoCardSaid : Prop := Claim7.holds Tryz.pinned (.plain (OpenSpec.upto typesDutiesSpec)) typesDutiesUptoCard

/-- THE SECOND FORM's CARD OF 'madrigallaw05.TypesSums'. -/
def typesSumsUptoCard : Claim7 := { stood := { row := typesSumsUptoRow, standIns := [], harness := (true, "4eab83aaf2d0ca1a5989b1e42fa88737c379655a955bfcfa7b25187439ffc77d"), looks := true }, kinds := [], alts := [], laidByText := true, laidKinds := [.data, .data, .data], laidTests := true, laidLooks := .later }
def TypesSumsUptoCardSaid : Prop := Claim7.holds Tryz.pinned (.plain (OpenSpec.upto typesSumsSpec)) typesSumsUptoCard

/-- THE SECOND FORM's CARD OF 'madrigallaw05.TypesOnes'. -/
def typesOnesUptoCard : Claim7 := { stood := { row := typesOnesUptoRow, standIns := [], harness := (true, "4eab83aaf2d0ca1a5989b1e42fa88737c379655a955bfcfa7b25187439ffc77d"), looks := true }, kinds := [], alts := [], laidByText := true, laidKinds := [.data, .data, .data], laidTests := true, laidLooks := .later }
def TypesOnesUptoCardSaid : Prop := Claim7.holds Tryz.pinned (.plain (OpenSpec.upto typesOnesSpec)) typesOnesUptoCard

/-- THE SECOND FORM's CARD OF 'madrigallaw05.TypesKept'. -/
def typesKeptUptoCard : Claim7 := { stood := { row := typesKeptUptoRow, standIns := [], harness := (true, "4eab83aaf2d0ca1a5989b1e42fa88737c379655a955bfcfa7b25187439ffc77d"), looks := true }, kinds := [], alts := [], laidByText := true, laidKinds := [.data, .data, .data], laidTests := true, laidLooks := .later }
def TypesKeptUptoCardSaid : Prop := Claim7.holds Tryz.pinned (.plain (OpenSpec.upto typesKeptSpec)) typesKeptUptoCard

/-- THE SECOND FORM's CARD OF 'madrigallaw05.TypesNames'. -/
def typesNamesUptoCard : Claim7 := { stood := { row := typesNamesUptoRow, standIns := [], harness := (true, "4eab83aaf2d0ca1a5989b1e42fa88737c379655a955bfcfa7b25187439ffc77d"), looks := true }, kinds := [], alts := [], laidByText := true, laidKinds := [.data, .data, .data], laidTests := true, laidLooks := .later }
def TypesNamesUptoCardSaid : Prop := Claim7.holds Tryz.pinned (.plain (OpenSpec.upto typesNamesSpec)) typesNamesUptoCard

/-- THE SECOND FORM's CARD OF 'madrigallaw05.TypesImages'. -/
def typesImagesUptoCard : Claim7 := { stood := { row := typesImagesUptoRow, standIns := [], harness := (true, "4eab83aaf2d0ca1a5989b1e42fa88737c379655a955bfcfa7b25187439ffc77d"), looks := true }, kinds := [], alts := [], laidByText := true, laidKinds := [.data, .data, .data], laidTests := true, laidLooks := .later }
def TypesImagesUptoCardSaid : Prop := Claim7.holds Tryz.pinned (.plain (OpenSpec.upto typesImagesSpec)) typesImagesUptoCard

/-- THE SECOND FORM's CARD OF 'madrigallaw05.TypesMorphs'. -/
def typesMorphsUptoCard : Claim7 := { stood := { row := typesMorphsUptoRow, standIns := [], harness := (true, "4eab83aaf2d0ca1a5989b1e42fa88737c379655a955bfcfa7b25187439ffc77d"), looks := true }, kinds := [], alts := [], laidByText := true, laidKinds := [.data, .data, .data], laidTests := true, laidLooks := .later }
def TypesMorphsUptoCardSaid : Prop := Claim7.holds Tryz.pinned (.plain (OpenSpec.upto typesMorphsSpec)) typesMorphsUptoCard

/-- THE SECOND FORM's CARD OF 'madrigallaw05.TypesItself'. -/
def typesItselfUptoCard : Claim7 := { stood := { row := typesItselfUptoRow, standIns := [], harness := (true, "4eab83aaf2d0ca1a5989b1e42fa88737c379655a955bfcfa7b25187439ffc77d"), looks := true }, kinds := [], alts := [], laidByText := true, laidKinds := [.data, .data, .data], laidTests := true, laidLooks := .later }
def TypesItselfUptoCardSaid : Prop := Claim7.holds Tryz.pinned (.plain (OpenSpec.upto typesItselfSpec)) typesItselfUptoCard

/-- THE SECOND FORM's CARD OF 'madrigallaw05.TypesOrder'. -/
def typesOrderUptoCard : Claim7 := { stood := { row := typesOrderUptoRow, standIns := [], harness := (true, "4eab83aaf2d0ca1a5989b1e42fa88737c379655a955bfcfa7b25187439ffc77d"), looks := true }, kinds := [], alts := [], laidByText := true, laidKinds := [.data, .data, .data], laidTests := true, laidLooks := .later }
def TypesOrderUptoCardSaid : Prop := Claim7.holds Tryz.pinned (.plain (OpenSpec.upto typesOrderSpec)) typesOrderUptoCard

/-- THE SECOND FORM's CARD OF 'madrigallaw05.TypesSumLaws'. -/
def typesSumLawsUptoCard : Claim7 := { stood := { row := typesSumLawsUptoRow, standIns := [], harness := (true, "4eab83aaf2d0ca1a5989b1e42fa88737c379655a955bfcfa7b25187439ffc77d"), looks := true }, kinds := [], alts := [], laidByText := true, laidKinds := [.data, .data, .data], laidTests := true, laidLooks := .later }
def TypesSumLawsUptoCardSaid : Prop := Claim7.holds Tryz.pinned (.plain (OpenSpec.upto typesSumLawsSpec)) typesSumLawsUptoCard
end Rows
end Go.Proofs.YtdjgjnahfekdhaaGreatDoor
