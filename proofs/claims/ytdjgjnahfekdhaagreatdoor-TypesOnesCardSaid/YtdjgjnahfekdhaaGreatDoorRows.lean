/-
  NARROWER THAN 'FOR EVERY INPUT', by the rows' own cells (each row's printed sentence says how): TypesModules: loops, laid · TypesBack: loops, laid · TypesDuties: loops, laid · TypesSums: loops, laid · TypesOnes: loops, laid · TypesKept: loops, laid · TypesNames: loops, laid · TypesImages: loops, laid · TypesMorphs: loops, laid · TypesItself: loops, laid · TypesOrder: loops, laid · TypesSumLaws: loops, laid.
  DERIVED. THE GIVEN ROWS OF THIS SEAT. 12 by the template 'for every input the law returns true; each argument reads behind the call as it read before'; 0 by the template 'total and deterministic' (their statements: YtdjgjnahfekdhaaGreatDoorTotals.lean).
  GIVEN WITH THE SEED: the statements are not yours to turn. If you find one false, say at which input.
  Laid BY PROGRAM, IN A SANDBOX (cutbox-rows.mjs): the forced cells as the released guide's own fill.sh prints them over the translation 0119a3d2444614ed… (all of the seat's roots in one cut). By AI agents, Wed Nov 11 2026. No macro, syntax, notation, axiom, sorry.
-/
import Derived.Test.YtdjgjnahfekdhaaGreatDoorChecked
import GoSem.Claim
import GoSem.ClaimJoined
import GoSem.ClaimMapViews
import Derived.JoinedTies
import Derived.KernelRfl
namespace Go.Proofs.YtdjgjnahfekdhaaGreatDoor
/- THE CELL 'sum', in the pinned program and in every row, IS THE sha256 OF THE DUMP (.gsa) THAT YtdjgjnahfekdhaaGreatDoorProg.lean LOADS. Nothing in Lean hashes anything: it is a label: what it is worth is what the hold of that sum in a sandbox is worth. -/
noncomputable def Tryz.pinned : Pinned := { name := "ytdjgjnahfekdhaagreatdoor", sum := "0119a3d2444614ed0bfaf0bcb546af57b0d89490952610f270db32f3658a6e83", checked := Tryz.checked }
namespace Rows
def none {H : Type} : Left H := { results := [], args := [] }

/- WHAT THE LISTED PACKAGE-LEVEL VARIABLES READ AS WHEN THE CALL BEGINS. Each datum BY PROGRAM (the guide's laid-datum.mjs) off the statement by which the dump's own 'gosem.cut.vars' lays the variable. In a bare row this is a premise. The card (YtdjgjnahfekdhaaGreatDoorCards.lean) ties it to the program's text. -/
def laid_math_bits_deBruijn32tab {H : Type} : DataW H := .agg [.lit (.int .u8 0), .lit (.int .u8 1), .lit (.int .u8 28), .lit (.int .u8 2), .lit (.int .u8 29), .lit (.int .u8 14), .lit (.int .u8 24), .lit (.int .u8 3), .lit (.int .u8 30), .lit (.int .u8 22), .lit (.int .u8 20), .lit (.int .u8 15), .lit (.int .u8 25), .lit (.int .u8 17), .lit (.int .u8 4), .lit (.int .u8 8), .lit (.int .u8 31), .lit (.int .u8 27), .lit (.int .u8 13), .lit (.int .u8 23), .lit (.int .u8 21), .lit (.int .u8 19), .lit (.int .u8 16), .lit (.int .u8 7), .lit (.int .u8 26), .lit (.int .u8 12), .lit (.int .u8 18), .lit (.int .u8 6), .lit (.int .u8 11), .lit (.int .u8 5), .lit (.int .u8 10), .lit (.int .u8 9)]
def laid_math_bits_deBruijn64tab {H : Type} : DataW H := .agg [.lit (.int .u8 0), .lit (.int .u8 1), .lit (.int .u8 56), .lit (.int .u8 2), .lit (.int .u8 57), .lit (.int .u8 49), .lit (.int .u8 28), .lit (.int .u8 3), .lit (.int .u8 61), .lit (.int .u8 58), .lit (.int .u8 42), .lit (.int .u8 50), .lit (.int .u8 38), .lit (.int .u8 29), .lit (.int .u8 17), .lit (.int .u8 4), .lit (.int .u8 62), .lit (.int .u8 47), .lit (.int .u8 59), .lit (.int .u8 36), .lit (.int .u8 45), .lit (.int .u8 43), .lit (.int .u8 51), .lit (.int .u8 22), .lit (.int .u8 53), .lit (.int .u8 39), .lit (.int .u8 33), .lit (.int .u8 30), .lit (.int .u8 24), .lit (.int .u8 18), .lit (.int .u8 12), .lit (.int .u8 5), .lit (.int .u8 63), .lit (.int .u8 55), .lit (.int .u8 48), .lit (.int .u8 27), .lit (.int .u8 60), .lit (.int .u8 41), .lit (.int .u8 37), .lit (.int .u8 16), .lit (.int .u8 46), .lit (.int .u8 35), .lit (.int .u8 44), .lit (.int .u8 21), .lit (.int .u8 52), .lit (.int .u8 32), .lit (.int .u8 23), .lit (.int .u8 11), .lit (.int .u8 54), .lit (.int .u8 26), .lit (.int .u8 40), .lit (.int .u8 15), .lit (.int .u8 34), .lit (.int .u8 20), .lit (.int .u8 31), .lit (.int .u8 10), .lit (.int .u8 25), .lit (.int .u8 14), .lit (.int .u8 19), .lit (.int .u8 9), .lit (.int .u8 13), .lit (.int .u8 8), .lit (.int .u8 7), .lit (.int .u8 6)]
def laid_internal_strconv_uint64pow10 {H : Type} : DataW H := .agg [.lit (.int .u64 1), .lit (.int .u64 10), .lit (.int .u64 100), .lit (.int .u64 1000), .lit (.int .u64 10000), .lit (.int .u64 100000), .lit (.int .u64 1000000), .lit (.int .u64 10000000), .lit (.int .u64 100000000), .lit (.int .u64 1000000000), .lit (.int .u64 10000000000), .lit (.int .u64 100000000000), .lit (.int .u64 1000000000000), .lit (.int .u64 10000000000000), .lit (.int .u64 100000000000000), .lit (.int .u64 1000000000000000), .lit (.int .u64 10000000000000000), .lit (.int .u64 100000000000000000), .lit (.int .u64 1000000000000000000), .lit (.int .u64 10000000000000000000)]

/-- 'madrigallaw05.TypesModules': WHATEVER THE INPUT: true; the input reads as it did. -/
def typesModulesSpec : ChangeSpec := { name := "typesModules", fn := fun _ => fun
  | [d1, d2, d3] => { results := [.lit (.bool true)], args := [d1, d2, d3] }
  | _ => none }
def typesModulesRow : OpenClaim := { program := "ytdjgjnahfekdhaagreatdoor", sum := "0119a3d2444614ed0bfaf0bcb546af57b0d89490952610f270db32f3658a6e83", func := "madrigal/madrigallaw05.TypesModules", spec := "typesModules", inPlace := ["internal/bytealg.IndexByteString", "internal/bytealg.IndexString", "internal/abi.NoEscape", "internal/bytealg.CountString"], unfollowed := true, recurses := true, named := ["internal/strconv.uint64pow10", "math/bits.deBruijn32tab", "math/bits.deBruijn64tab", "internal/bytealg.MaxLen"], loops := true, plainKeys := false, apart := false, laid := [("math/bits.deBruijn32tab", laid_math_bits_deBruijn32tab), ("math/bits.deBruijn64tab", laid_math_bits_deBruijn64tab), ("internal/strconv.uint64pow10", laid_internal_strconv_uint64pow10)] }
def TypesModulesSaid : Prop := typesModulesRow.holds Tryz.pinned (OpenSpec.ofChange typesModulesSpec)

/-- ITS FALSE NEIGHBOUR: 'it returns false'. Refute it at one input. -/
def typesModulesWrong : ChangeSpec := { name := "typesModules", fn := fun _ => fun
  | [d1, d2, d3] => { results := [.lit (.bool false)], args := [d1, d2, d3] }
  | _ => none }
def TypesModulesWrongFalsely : Prop := typesModulesRow.holds Tryz.pinned (OpenSpec.ofChange typesModulesWrong)

/-- 'madrigallaw05.TypesBack': WHATEVER THE INPUT: true; the input reads as it did. -/
def typesBackSpec : ChangeSpec := { name := "typesBack", fn := fun _ => fun
  | [d1, d2, d3, d4] => { results := [.lit (.bool true)], args := [d1, d2, d3, d4] }
  | _ => none }
def typesBackRow : OpenClaim := { program := "ytdjgjnahfekdhaagreatdoor", sum := "0119a3d2444614ed0bfaf0bcb546af57b0d89490952610f270db32f3658a6e83", func := "madrigal/madrigallaw05.TypesBack", spec := "typesBack", inPlace := ["internal/bytealg.IndexByteString", "internal/bytealg.IndexString", "internal/abi.NoEscape", "internal/bytealg.CountString"], unfollowed := true, recurses := true, named := ["internal/strconv.uint64pow10", "math/bits.deBruijn32tab", "math/bits.deBruijn64tab", "internal/bytealg.MaxLen"], loops := true, plainKeys := false, apart := false, laid := [("math/bits.deBruijn32tab", laid_math_bits_deBruijn32tab), ("math/bits.deBruijn64tab", laid_math_bits_deBruijn64tab), ("internal/strconv.uint64pow10", laid_internal_strconv_uint64pow10)] }
def TypesBackSaid : Prop := typesBackRow.holds Tryz.pinned (OpenSpec.ofChange typesBackSpec)

/-- ITS FALSE NEIGHBOUR: 'it returns false'. Refute it at one input. -/
def typesBackWrong : ChangeSpec := { name := "typesBack", fn := fun _ => fun
  | [d1, d2, d3, d4] => { results := [.lit (.bool false)], args := [d1, d2, d3, d4] }
  | _ => none }
def TypesBackWrongFalsely : Prop := typesBackRow.holds Tryz.pinned (OpenSpec.ofChange typesBackWrong)

/-- 'madrigallaw05.TypesDuties': WHATEVER THE INPUT: true; the input reads as it did. -/
def typesDutiesSpec : ChangeSpec := { name := "typesDuties", fn := fun _ => fun
  | [d1, d2] => { results := [.lit (.bool true)], args := [d1, d2] }
  | _ => none }
def typesDutiesRow : OpenClaim := { program := "ytdjgjnahfekdhaagreatdoor", sum := "0119a3d2444614ed0bfaf0bcb546af57b0d89490952610f270db32f3658a6e83", func := "madrigal/madrigallaw05.TypesDuties", spec := "typesDuties", inPlace := ["internal/bytealg.IndexByteString", "internal/bytealg.IndexString", "internal/abi.NoEscape", "internal/bytealg.CountString"], unfollowed := true, recurses := true, named := ["internal/strconv.uint64pow10", "math/bits.deBruijn32tab", "math/bits.deBruijn64tab", "internal/bytealg.MaxLen"], loops := true, plainKeys := false, apart := false, laid := [("math/bits.deBruijn32tab", laid_math_bits_deBruijn32tab), ("math/bits.deBruijn64tab", laid_math_bits_deBruijn64tab), ("internal/strconv.uint64pow10", laid_internal_strconv_uint64pow10)] }
def TypesDutiesSaid : Prop := typesDutiesRow.holds Tryz.pinned (OpenSpec.ofChange typesDutiesSpec)

/-- ITS FALSE NEIGHBOUR: 'it returns false'. Refute it at one input. -/
def typesDutiesWrong : ChangeSpec := { name := "typesDuties", fn := fun _ => fun
  | [d1, d2] => { results := [.lit (.bool false)], args := [d1, d2] }
  | _ => none }
def TypesDutiesWrongFalsely : Prop := typesDutiesRow.holds Tryz.pinned (OpenSpec.ofChange typesDutiesWrong)

/-- 'madrigallaw05.TypesSums': WHATEVER THE INPUT: true; the input reads as it did. -/
def typesSumsSpec : ChangeSpec := { name := "typesSums", fn := fun _ => fun
  | [d1, d2] => { results := [.lit (.bool true)], args := [d1, d2] }
  | _ => none }
def typesSumsRow : OpenClaim := { program := "ytdjgjnahfekdhaagreatdoor", sum := "0119a3d2444614ed0bfaf0bcb546af57b0d89490952610f270db32f3658a6e83", func := "madrigal/madrigallaw05.TypesSums", spec := "typesSums", inPlace := ["internal/bytealg.IndexByteString", "internal/bytealg.IndexString", "internal/abi.NoEscape", "internal/bytealg.CountString"], unfollowed := true, recurses := true, named := ["internal/strconv.uint64pow10", "math/bits.deBruijn32tab", "math/bits.deBruijn64tab", "internal/bytealg.MaxLen"], loops := true, plainKeys := false, apart := false, laid := [("math/bits.deBruijn32tab", laid_math_bits_deBruijn32tab), ("math/bits.deBruijn64tab", laid_math_bits_deBruijn64tab), ("internal/strconv.uint64pow10", laid_internal_strconv_uint64pow10)] }
def TypesSumsSaid : Prop := typesSumsRow.holds Tryz.pinned (OpenSpec.ofChange typesSumsSpec)

/-- ITS FALSE NEIGHBOUR: 'it returns false'. Refute it at one input. -/
def typesSumsWrong : ChangeSpec := { name := "typesSums", fn := fun _ => fun
  | [d1, d2] => { results := [.lit (.bool false)], args := [d1, d2] }
  | _ => none }
def TypesSumsWrongFalsely : Prop := typesSumsRow.holds Tryz.pinned (OpenSpec.ofChange typesSumsWrong)

/-- 'madrigallaw05.TypesOnes': WHATEVER THE INPUT: true; the input reads as it did. -/
def typesOnesSpec : ChangeSpec := { name := "typesOnes", fn := fun _ => fun
  | [d1, d2, d3] => { results := [.lit (.bool true)], args := [d1, d2, d3] }
  | _ => none }
def typesOnesRow : OpenClaim := { program := "ytdjgjnahfekdhaagreatdoor", sum := "0119a3d2444614ed0bfaf0bcb546af57b0d89490952610f270db32f3658a6e83", func := "madrigal/madrigallaw05.TypesOnes", spec := "typesOnes", inPlace := ["internal/bytealg.IndexByteString", "internal/bytealg.IndexString", "internal/abi.NoEscape", "internal/bytealg.CountString"], unfollowed := true, recurses := true, named := ["internal/strconv.uint64pow10", "math/bits.deBruijn32tab", "math/bits.deBruijn64tab", "internal/bytealg.MaxLen"], loops := true, plainKeys := false, apart := false, laid := [("math/bits.deBruijn32tab", laid_math_bits_deBruijn32tab), ("math/bits.deBruijn64tab", laid_math_bits_deBruijn64tab), ("internal/strconv.uint64pow10", laid_internal_strconv_uint64pow10)] }
def TypesOnesSaid : Prop := typesOnesRow.holds Tryz.pinned (OpenSpec.ofChange typesOnesSpec)

/-- ITS FALSE NEIGHBOUR: 'it returns false'. Refute it at one input. -/
def typesOnesWrong : ChangeSpec := { name := "typesOnes", fn := fun _ => fun
  | [d1, d2, d3] => { results := [.lit (.bool false)], args := [d1, d2, d3] }
  | _ => none }
def TypesOnesWrongFalsely : Prop := typesOnesRow.holds Tryz.pinned (OpenSpec.ofChange typesOnesWrong)

/-- 'madrigallaw05.TypesKept': WHATEVER THE INPUT: true; the input reads as it did. -/
def typesKeptSpec : ChangeSpec := { name := "typesKept", fn := fun _ => fun
  | [d] => { results := [.lit (.bool true)], args := [d] }
  | _ => none }
def typesKeptRow : OpenClaim := { program := "ytdjgjnahfekdhaagreatdoor", sum := "0119a3d2444614ed0bfaf0bcb546af57b0d89490952610f270db32f3658a6e83", func := "madrigal/madrigallaw05.TypesKept", spec := "typesKept", inPlace := ["internal/bytealg.IndexByteString", "internal/bytealg.IndexString", "internal/abi.NoEscape", "internal/bytealg.CountString"], unfollowed := true, recurses := true, named := ["internal/strconv.uint64pow10", "math/bits.deBruijn32tab", "math/bits.deBruijn64tab", "internal/bytealg.MaxLen"], loops := true, plainKeys := false, apart := false, laid := [("math/bits.deBruijn32tab", laid_math_bits_deBruijn32tab), ("math/bits.deBruijn64tab", laid_math_bits_deBruijn64tab), ("internal/strconv.uint64pow10", laid_internal_strconv_uint64pow10)] }
def TypesKeptSaid : Prop := typesKeptRow.holds Tryz.pinned (OpenSpec.ofChange typesKeptSpec)

/-- ITS FALSE NEIGHBOUR: 'it returns false'. Refute it at one input. -/
def typesKeptWrong : ChangeSpec := { name := "typesKept", fn := fun _ => fun
  | [d] => { results := [.lit (.bool false)], args := [d] }
  | _ => none }
def TypesKeptWrongFalsely : Prop := typesKeptRow.holds Tryz.pinned (OpenSpec.ofChange typesKeptWrong)

/-- 'madrigallaw05.TypesNames': WHATEVER THE INPUT: true; the input reads as it did. -/
def typesNamesSpec : ChangeSpec := { name := "typesNames", fn := fun _ => fun
  | [d1, d2] => { results := [.lit (.bool true)], args := [d1, d2] }
  | _ => none }
def typesNamesRow : OpenClaim := { program := "ytdjgjnahfekdhaagreatdoor", sum := "0119a3d2444614ed0bfaf0bcb546af57b0d89490952610f270db32f3658a6e83", func := "madrigal/madrigallaw05.TypesNames", spec := "typesNames", inPlace := ["internal/bytealg.IndexByteString", "internal/bytealg.IndexString", "internal/abi.NoEscape", "internal/bytealg.CountString"], unfollowed := true, recurses := true, named := ["internal/strconv.uint64pow10", "math/bits.deBruijn32tab", "math/bits.deBruijn64tab", "internal/bytealg.MaxLen"], loops := true, plainKeys := false, apart := false, laid := [("math/bits.deBruijn32tab", laid_math_bits_deBruijn32tab), ("math/bits.deBruijn64tab", laid_math_bits_deBruijn64tab), ("internal/strconv.uint64pow10", laid_internal_strconv_uint64pow10)] }
def TypesNamesSaid : Prop := typesNamesRow.holds Tryz.pinned (OpenSpec.ofChange typesNamesSpec)

/-- ITS FALSE NEIGHBOUR: 'it returns false'. Refute it at one input. -/
def typesNamesWrong : ChangeSpec := { name := "typesNames", fn := fun _ => fun
  | [d1, d2] => { results := [.lit (.bool false)], args := [d1, d2] }
  | _ => none }
def TypesNamesWrongFalsely : Prop := typesNamesRow.holds Tryz.pinned (OpenSpec.ofChange typesNamesWrong)

/-- 'madrigallaw05.TypesImages': WHATEVER THE INPUT: true; the input reads as it did. -/
def typesImagesSpec : ChangeSpec := { name := "typesImages", fn := fun _ => fun
  | [d1, d2, d3, d4] => { results := [.lit (.bool true)], args := [d1, d2, d3, d4] }
  | _ => none }
def typesImagesRow : OpenClaim := { program := "ytdjgjnahfekdhaagreatdoor", sum := "0119a3d2444614ed0bfaf0bcb546af57b0d89490952610f270db32f3658a6e83", func := "madrigal/madrigallaw05.TypesImages", spec := "typesImages", inPlace := ["internal/bytealg.IndexByteString", "internal/bytealg.IndexString", "internal/abi.NoEscape", "internal/bytealg.CountString"], unfollowed := true, recurses := true, named := ["internal/strconv.uint64pow10", "math/bits.deBruijn32tab", "math/bits.deBruijn64tab", "internal/bytealg.MaxLen"], loops := true, plainKeys := false, apart := false, laid := [("math/bits.deBruijn32tab", laid_math_bits_deBruijn32tab), ("math/bits.deBruijn64tab", laid_math_bits_deBruijn64tab), ("internal/strconv.uint64pow10", laid_internal_strconv_uint64pow10)] }
def TypesImagesSaid : Prop := typesImagesRow.holds Tryz.pinned (OpenSpec.ofChange typesImagesSpec)

/-- ITS FALSE NEIGHBOUR: 'it returns false'. Refute it at one input. -/
def typesImagesWrong : ChangeSpec := { name := "typesImages", fn := fun _ => fun
  | [d1, d2, d3, d4] => { results := [.lit (.bool false)], args := [d1, d2, d3, d4] }
  | _ => none }
def TypesImagesWrongFalsely : Prop := typesImagesRow.holds Tryz.pinned (OpenSpec.ofChange typesImagesWrong)

/-- 'madrigallaw05.TypesMorphs': WHATEVER THE INPUT: true; the input reads as it did. -/
def typesMorphsSpec : ChangeSpec := { name := "typesMorphs", fn := fun _ => fun
  | [d1, d2, d3] => { results := [.lit (.bool true)], args := [d1, d2, d3] }
  | _ => none }
def typesMorphsRow : OpenClaim := { program := "ytdjgjnahfekdhaagreatdoor", sum := "0119a3d2444614ed0bfaf0bcb546af57b0d89490952610f270db32f3658a6e83", func := "madrigal/madrigallaw05.TypesMorphs", spec := "typesMorphs", inPlace := ["internal/bytealg.IndexByteString", "internal/bytealg.IndexString", "internal/abi.NoEscape", "internal/bytealg.CountString"], unfollowed := true, recurses := true, named := ["internal/strconv.uint64pow10", "math/bits.deBruijn32tab", "math/bits.deBruijn64tab", "internal/bytealg.MaxLen"], loops := true, plainKeys := false, apart := false, laid := [("math/bits.deBruijn32tab", laid_math_bits_deBruijn32tab), ("math/bits.deBruijn64tab", laid_math_bits_deBruijn64tab), ("internal/strconv.uint64pow10", laid_internal_strconv_uint64pow10)] }
def TypesMorphsSaid : Prop := typesMorphsRow.holds Tryz.pinned (OpenSpec.ofChange typesMorphsSpec)

/-- ITS FALSE NEIGHBOUR: 'it returns false'. Refute it at one input. -/
def typesMorphsWrong : ChangeSpec := { name := "typesMorphs", fn := fun _ => fun
  | [d1, d2, d3] => { results := [.lit (.bool false)], args := [d1, d2, d3] }
  | _ => none }
def TypesMorphsWrongFalsely : Prop := typesMorphsRow.holds Tryz.pinned (OpenSpec.ofChange typesMorphsWrong)

/-- 'madrigallaw05.TypesItself': WHATEVER THE INPUT: true; the input reads as it did. -/
def typesItselfSpec : ChangeSpec := { name := "typesItself", fn := fun _ => fun
  | [d1, d2] => { results := [.lit (.bool true)], args := [d1, d2] }
  | _ => none }
def typesItselfRow : OpenClaim := { program := "ytdjgjnahfekdhaagreatdoor", sum := "0119a3d2444614ed0bfaf0bcb546af57b0d89490952610f270db32f3658a6e83", func := "madrigal/madrigallaw05.TypesItself", spec := "typesItself", inPlace := ["internal/bytealg.IndexByteString", "internal/bytealg.IndexString", "internal/abi.NoEscape", "internal/bytealg.CountString"], unfollowed := true, recurses := true, named := ["internal/strconv.uint64pow10", "math/bits.deBruijn32tab", "math/bits.deBruijn64tab", "internal/bytealg.MaxLen"], loops := true, plainKeys := false, apart := false, laid := [("math/bits.deBruijn32tab", laid_math_bits_deBruijn32tab), ("math/bits.deBruijn64tab", laid_math_bits_deBruijn64tab), ("internal/strconv.uint64pow10", laid_internal_strconv_uint64pow10)] }
def TypesItselfSaid : Prop := typesItselfRow.holds Tryz.pinned (OpenSpec.ofChange typesItselfSpec)

/-- ITS FALSE NEIGHBOUR: 'it returns false'. Refute it at one input. -/
def typesItselfWrong : ChangeSpec := { name := "typesItself", fn := fun _ => fun
  | [d1, d2] => { results := [.lit (.bool false)], args := [d1, d2] }
  | _ => none }
def TypesItselfWrongFalsely : Prop := typesItselfRow.holds Tryz.pinned (OpenSpec.ofChange typesItselfWrong)

/-- 'madrigallaw05.TypesOrder': WHATEVER THE INPUT: true; the input reads as it did. -/
def typesOrderSpec : ChangeSpec := { name := "typesOrder", fn := fun _ => fun
  | [d1, d2] => { results := [.lit (.bool true)], args := [d1, d2] }
  | _ => none }
def typesOrderRow : OpenClaim := { program := "ytdjgjnahfekdhaagreatdoor", sum := "0119a3d2444614ed0bfaf0bcb546af57b0d89490952610f270db32f3658a6e83", func := "madrigal/madrigallaw05.TypesOrder", spec := "typesOrder", inPlace := ["internal/bytealg.IndexByteString", "internal/bytealg.IndexString", "internal/abi.NoEscape", "internal/bytealg.CountString"], unfollowed := true, recurses := true, named := ["internal/strconv.uint64pow10", "math/bits.deBruijn32tab", "math/bits.deBruijn64tab", "internal/bytealg.MaxLen"], loops := true, plainKeys := false, apart := false, laid := [("math/bits.deBruijn32tab", laid_math_bits_deBruijn32tab), ("math/bits.deBruijn64tab", laid_math_bits_deBruijn64tab), ("internal/strconv.uint64pow10", laid_internal_strconv_uint64pow10)] }
def TypesOrderSaid : Prop := typesOrderRow.holds Tryz.pinned (OpenSpec.ofChange typesOrderSpec)

/-- ITS FALSE NEIGHBOUR: 'it returns false'. Refute it at one input. -/
def typesOrderWrong : ChangeSpec := { name := "typesOrder", fn := fun _ => fun
  | [d1, d2] => { results := [.lit (.bool false)], args := [d1, d2] }
  | _ => none }
def TypesOrderWrongFalsely : Prop := typesOrderRow.holds Tryz.pinned (OpenSpec.ofChange typesOrderWrong)

/-- 'madrigallaw05.TypesSumLaws': WHATEVER THE INPUT: true; the input reads as it did. -/
def typesSumLawsSpec : ChangeSpec := { name := "typesSumLaws", fn := fun _ => fun
  | [d1, d2, d3] => { results := [.lit (.bool true)], args := [d1, d2, d3] }
  | _ => none }
def typesSumLawsRow : OpenClaim := { program := "ytdjgjnahfekdhaagreatdoor", sum := "0119a3d2444614ed0bfaf0bcb546af57b0d89490952610f270db32f3658a6e83", func := "madrigal/madrigallaw05.TypesSumLaws", spec := "typesSumLaws", inPlace := ["internal/bytealg.IndexByteString", "internal/bytealg.IndexString", "internal/abi.NoEscape", "internal/bytealg.CountString"], unfollowed := true, recurses := true, named := ["internal/strconv.uint64pow10", "math/bits.deBruijn32tab", "math/bits.deBruijn64tab", "internal/bytealg.MaxLen"], loops := true, plainKeys := false, apart := false, laid := [("math/bits.deBruijn32tab", laid_math_bits_deBruijn32tab), ("math/bits.deBruijn64tab", laid_math_bits_deBruijn64tab), ("internal/strconv.uint64pow10", laid_internal_strconv_uint64pow10)] }
def TypesSumLawsSaid : Prop := typesSumLawsRow.holds Tryz.pinned (OpenSpec.ofChange typesSumLawsSpec)

/-- ITS FALSE NEIGHBOUR: 'it returns false'. Refute it at one input. -/
def typesSumLawsWrong : ChangeSpec := { name := "typesSumLaws", fn := fun _ => fun
  | [d1, d2, d3] => { results := [.lit (.bool false)], args := [d1, d2, d3] }
  | _ => none }
def TypesSumLawsWrongFalsely : Prop := typesSumLawsRow.holds Tryz.pinned (OpenSpec.ofChange typesSumLawsWrong)

/- THE SECOND FORM. 'bulk': how many values and letters a reading holds, each counted each time it is reached (what is shared counts as often as it is met; a slice's spare places count too). A statement '..UptoSaid' is the law's where the arguments, and the package variables that the reading takes, are together of bulk at most 1048576: NARROWER than '..Said'. Prove '..Said' where nothing that the law and all that it calls make is longer than what came in: it says more and counts as full. Else prove '..UptoSaid'. A law counts once. -/
mutual
def uptoBulk {H : Type} : DataW H → Nat
  | .lit (.string bytes) => bytes.length + 1
  | .lit _ => 1
  | .nil => 1
  | .ptr d => uptoBulk d + 1
  | .slice elems spare => uptoBulkAll elems + uptoBulkAll spare + 1
  | .agg parts => uptoBulkAll parts + 1
  | .iface _ d => uptoBulk d + 1
  | .map entries => uptoBulkEntries entries + 1
  | .held _ => 1
def uptoBulkAll {H : Type} : List (DataW H) → Nat
  | [] => 0
  | d :: r => uptoBulk d + uptoBulkAll r
def uptoBulkEntries {H : Type} : List (Lit × DataW H) → Nat
  | [] => 0
  | x :: r => uptoBulkEntry x + uptoBulkEntries r
def uptoBulkEntry {H : Type} : Lit × DataW H → Nat
  | (.string bytes, d) => bytes.length + uptoBulk d + 1
  | (_, d) => uptoBulk d + 1
 end
def uptoSmall : (H : Type) → List (DataW H) → Bool := fun _ ds => decide (uptoBulkAll ds ≤ 1048576)
def OpenSpec.upto (s : _root_.Go.ChangeSpec) : _root_.Go.OpenSpec := { _root_.Go.OpenSpec.ofChange s with cond := some uptoSmall }

/-- 'madrigallaw05.TypesModules', WHERE WHAT IT READS IS OF BULK AT MOST 1048576: true; the input reads as it did. -/
def typesModulesUptoRow : OpenClaim := { program := "ytdjgjnahfekdhaagreatdoor", sum := "0119a3d2444614ed0bfaf0bcb546af57b0d89490952610f270db32f3658a6e83", func := "madrigal/madrigallaw05.TypesModules", spec := "typesModules", inPlace := ["internal/bytealg.IndexByteString", "internal/bytealg.IndexString", "internal/abi.NoEscape", "internal/bytealg.CountString"], unfollowed := true, recurses := true, named := ["internal/strconv.uint64pow10", "math/bits.deBruijn32tab", "math/bits.deBruijn64tab", "internal/bytealg.MaxLen"], loops := true, plainKeys := false, apart := false, laid := [("math/bits.deBruijn32tab", laid_math_bits_deBruijn32tab), ("math/bits.deBruijn64tab", laid_math_bits_deBruijn64tab), ("internal/strconv.uint64pow10", laid_internal_strconv_uint64pow10)], narrowed := true }
def TypesModulesUptoSaid : Prop := typesModulesUptoRow.holds Tryz.pinned (OpenSpec.upto typesModulesSpec)

/-- 'madrigallaw05.TypesBack', WHERE WHAT IT READS IS OF BULK AT MOST 1048576: true; the input reads as it did. -/
def typesBackUptoRow : OpenClaim := { program := "ytdjgjnahfekdhaagreatdoor", sum := "0119a3d2444614ed0bfaf0bcb546af57b0d89490952610f270db32f3658a6e83", func := "madrigal/madrigallaw05.TypesBack", spec := "typesBack", inPlace := ["internal/bytealg.IndexByteString", "internal/bytealg.IndexString", "internal/abi.NoEscape", "internal/bytealg.CountString"], unfollowed := true, recurses := true, named := ["internal/strconv.uint64pow10", "math/bits.deBruijn32tab", "math/bits.deBruijn64tab", "internal/bytealg.MaxLen"], loops := true, plainKeys := false, apart := false, laid := [("math/bits.deBruijn32tab", laid_math_bits_deBruijn32tab), ("math/bits.deBruijn64tab", laid_math_bits_deBruijn64tab), ("internal/strconv.uint64pow10", laid_internal_strconv_uint64pow10)], narrowed := true }
def TypesBackUptoSaid : Prop := typesBackUptoRow.holds Tryz.pinned (OpenSpec.upto typesBackSpec)

/-- 'madrigallaw05.TypesDuties', WHERE WHAT IT READS IS OF BULK AT MOST 1048576: true; the input reads as it did. -/
def typesDutiesUptoRow : OpenClaim := { program := "ytdjgjnahfekdhaagreatdoor", sum := "0119a3d2444614ed0bfaf0bcb546af57b0d89490952610f270db32f3658a6e83", func := "madrigal/madrigallaw05.TypesDuties", spec := "typesDuties", inPlace := ["internal/bytealg.IndexByteString", "internal/bytealg.IndexString", "internal/abi.NoEscape", "internal/bytealg.CountString"], unfollowed := true, recurses := true, named := ["internal/strconv.uint64pow10", "math/bits.deBruijn32tab", "math/bits.deBruijn64tab", "internal/bytealg.MaxLen"], loops := true, plainKeys := false, apart := false, laid := [("math/bits.deBruijn32tab", laid_math_bits_deBruijn32tab), ("math/bits.deBruijn64tab", laid_math_bits_deBruijn64tab), ("internal/strconv.uint64pow10", laid_internal_strconv_uint64pow10)], narrowed := true }
def TypesDutiesUptoSaid : Prop := typesDutiesUptoRow.holds Tryz.pinned (OpenSpec.upto typesDutiesSpec)

/-- 'madrigallaw05.TypesSums', WHERE WHAT IT READS IS OF BULK AT MOST 1048576: true; the input reads as it did. -/
def typesSumsUptoRow : OpenClaim := { program := "ytdjgjnahfekdhaagreatdoor", sum := "0119a3d2444614ed0bfaf0bcb546af57b0d89490952610f270db32f3658a6e83", func := "madrigal/madrigallaw05.TypesSums", spec := "typesSums", inPlace := ["internal/bytealg.IndexByteString", "internal/bytealg.IndexString", "internal/abi.NoEscape", "internal/bytealg.CountString"], unfollowed := true, recurses := true, named := ["internal/strconv.uint64pow10", "math/bits.deBruijn32tab", "math/bits.deBruijn64tab", "internal/bytealg.MaxLen"], loops := true, plainKeys := false, apart := false, laid := [("math/bits.deBruijn32tab", laid_math_bits_deBruijn32tab), ("math/bits.deBruijn64tab", laid_math_bits_deBruijn64tab), ("internal/strconv.uint64pow10", laid_internal_strconv_uint64pow10)], narrowed := true }
def TypesSumsUptoSaid : Prop := typesSumsUptoRow.holds Tryz.pinned (OpenSpec.upto typesSumsSpec)

/-- 'madrigallaw05.TypesOnes', WHERE WHAT IT READS IS OF BULK AT MOST 1048576: true; the input reads as it did. -/
def typesOnesUptoRow : OpenClaim := { program := "ytdjgjnahfekdhaagreatdoor", sum := "0119a3d2444614ed0bfaf0bcb546af57b0d89490952610f270db32f3658a6e83", func := "madrigal/madrigallaw05.TypesOnes", spec := "typesOnes", inPlace := ["internal/bytealg.IndexByteString", "internal/bytealg.IndexString", "internal/abi.NoEscape", "internal/bytealg.CountString"], unfollowed := true, recurses := true, named := ["internal/strconv.uint64pow10", "math/bits.deBruijn32tab", "math/bits.deBruijn64tab", "internal/bytealg.MaxLen"], loops := true, plainKeys := false, apart := false, laid := [("math/bits.deBruijn32tab", laid_math_bits_deBruijn32tab), ("math/bits.deBruijn64tab", laid_math_bits_deBruijn64tab), ("internal/strconv.uint64pow10", laid_internal_strconv_uint64pow10)], narrowed := true }
def TypesOnesUptoSaid : Prop := typesOnesUptoRow.holds Tryz.pinned (OpenSpec.upto typesOnesSpec)

/-- 'madrigallaw05.TypesKept', WHERE WHAT IT READS IS OF BULK AT MOST 1048576: true; the input reads as it did. -/
def typesKeptUptoRow : OpenClaim := { program := "ytdjgjnahfekdhaagreatdoor", sum := "0119a3d2444614ed0bfaf0bcb546af57b0d89490952610f270db32f3658a6e83", func := "madrigal/madrigallaw05.TypesKept", spec := "typesKept", inPlace := ["internal/bytealg.IndexByteString", "internal/bytealg.IndexString", "internal/abi.NoEscape", "internal/bytealg.CountString"], unfollowed := true, recurses := true, named := ["internal/strconv.uint64pow10", "math/bits.deBruijn32tab", "math/bits.deBruijn64tab", "internal/bytealg.MaxLen"], loops := true, plainKeys := false, apart := false, laid := [("math/bits.deBruijn32tab", laid_math_bits_deBruijn32tab), ("math/bits.deBruijn64tab", laid_math_bits_deBruijn64tab), ("internal/strconv.uint64pow10", laid_internal_strconv_uint64pow10)], narrowed := true }
def TypesKeptUptoSaid : Prop := typesKeptUptoRow.holds Tryz.pinned (OpenSpec.upto typesKeptSpec)

/-- 'madrigallaw05.TypesNames', WHERE WHAT IT READS IS OF BULK AT MOST 1048576: true; the input reads as it did. -/
def typesNamesUptoRow : OpenClaim := { program := "ytdjgjnahfekdhaagreatdoor", sum := "0119a3d2444614ed0bfaf0bcb546af57b0d89490952610f270db32f3658a6e83", func := "madrigal/madrigallaw05.TypesNames", spec := "typesNames", inPlace := ["internal/bytealg.IndexByteString", "internal/bytealg.IndexString", "internal/abi.NoEscape", "internal/bytealg.CountString"], unfollowed := true, recurses := true, named := ["internal/strconv.uint64pow10", "math/bits.deBruijn32tab", "math/bits.deBruijn64tab", "internal/bytealg.MaxLen"], loops := true, plainKeys := false, apart := false, laid := [("math/bits.deBruijn32tab", laid_math_bits_deBruijn32tab), ("math/bits.deBruijn64tab", laid_math_bits_deBruijn64tab), ("internal/strconv.uint64pow10", laid_internal_strconv_uint64pow10)], narrowed := true }
def TypesNamesUptoSaid : Prop := typesNamesUptoRow.holds Tryz.pinned (OpenSpec.upto typesNamesSpec)

/-- 'madrigallaw05.TypesImages', WHERE WHAT IT READS IS OF BULK AT MOST 1048576: true; the input reads as it did. -/
def typesImagesUptoRow : OpenClaim := { program := "ytdjgjnahfekdhaagreatdoor", sum := "0119a3d2444614ed0bfaf0bcb546af57b0d89490952610f270db32f3658a6e83", func := "madrigal/madrigallaw05.TypesImages", spec := "typesImages", inPlace := ["internal/bytealg.IndexByteString", "internal/bytealg.IndexString", "internal/abi.NoEscape", "internal/bytealg.CountString"], unfollowed := true, recurses := true, named := ["internal/strconv.uint64pow10", "math/bits.deBruijn32tab", "math/bits.deBruijn64tab", "internal/bytealg.MaxLen"], loops := true, plainKeys := false, apart := false, laid := [("math/bits.deBruijn32tab", laid_math_bits_deBruijn32tab), ("math/bits.deBruijn64tab", laid_math_bits_deBruijn64tab), ("internal/strconv.uint64pow10", laid_internal_strconv_uint64pow10)], narrowed := true }
def TypesImagesUptoSaid : Prop := typesImagesUptoRow.holds Tryz.pinned (OpenSpec.upto typesImagesSpec)

/-- 'madrigallaw05.TypesMorphs', WHERE WHAT IT READS IS OF BULK AT MOST 1048576: true; the input reads as it did. -/
def typesMorphsUptoRow : OpenClaim := { program := "ytdjgjnahfekdhaagreatdoor", sum := "0119a3d2444614ed0bfaf0bcb546af57b0d89490952610f270db32f3658a6e83", func := "madrigal/madrigallaw05.TypesMorphs", spec := "typesMorphs", inPlace := ["internal/bytealg.IndexByteString", "internal/bytealg.IndexString", "internal/abi.NoEscape", "internal/bytealg.CountString"], unfollowed := true, recurses := true, named := ["internal/strconv.uint64pow10", "math/bits.deBruijn32tab", "math/bits.deBruijn64tab", "internal/bytealg.MaxLen"], loops := true, plainKeys := false, apart := false, laid := [("math/bits.deBruijn32tab", laid_math_bits_deBruijn32tab), ("math/bits.deBruijn64tab", laid_math_bits_deBruijn64tab), ("internal/strconv.uint64pow10", laid_internal_strconv_uint64pow10)], narrowed := true }
def TypesMorphsUptoSaid : Prop := typesMorphsUptoRow.holds Tryz.pinned (OpenSpec.upto typesMorphsSpec)

/-- 'madrigallaw05.TypesItself', WHERE WHAT IT READS IS OF BULK AT MOST 1048576: true; the input reads as it did. -/
def typesItselfUptoRow : OpenClaim := { program := "ytdjgjnahfekdhaagreatdoor", sum := "0119a3d2444614ed0bfaf0bcb546af57b0d89490952610f270db32f3658a6e83", func := "madrigal/madrigallaw05.TypesItself", spec := "typesItself", inPlace := ["internal/bytealg.IndexByteString", "internal/bytealg.IndexString", "internal/abi.NoEscape", "internal/bytealg.CountString"], unfollowed := true, recurses := true, named := ["internal/strconv.uint64pow10", "math/bits.deBruijn32tab", "math/bits.deBruijn64tab", "internal/bytealg.MaxLen"], loops := true, plainKeys := false, apart := false, laid := [("math/bits.deBruijn32tab", laid_math_bits_deBruijn32tab), ("math/bits.deBruijn64tab", laid_math_bits_deBruijn64tab), ("internal/strconv.uint64pow10", laid_internal_strconv_uint64pow10)], narrowed := true }
def TypesItselfUptoSaid : Prop := typesItselfUptoRow.holds Tryz.pinned (OpenSpec.upto typesItselfSpec)

/-- 'madrigallaw05.TypesOrder', WHERE WHAT IT READS IS OF BULK AT MOST 1048576: true; the input reads as it did. -/
def typesOrderUptoRow : OpenClaim := { program := "ytdjgjnahfekdhaagreatdoor", sum := "0119a3d2444614ed0bfaf0bcb546af57b0d89490952610f270db32f3658a6e83", func := "madrigal/madrigallaw05.TypesOrder", spec := "typesOrder", inPlace := ["internal/bytealg.IndexByteString", "internal/bytealg.IndexString", "internal/abi.NoEscape", "internal/bytealg.CountString"], unfollowed := true, recurses := true, named := ["internal/strconv.uint64pow10", "math/bits.deBruijn32tab", "math/bits.deBruijn64tab", "internal/bytealg.MaxLen"], loops := true, plainKeys := false, apart := false, laid := [("math/bits.deBruijn32tab", laid_math_bits_deBruijn32tab), ("math/bits.deBruijn64tab", laid_math_bits_deBruijn64tab), ("internal/strconv.uint64pow10", laid_internal_strconv_uint64pow10)], narrowed := true }
def TypesOrderUptoSaid : Prop := typesOrderUptoRow.holds Tryz.pinned (OpenSpec.upto typesOrderSpec)

/-- 'madrigallaw05.TypesSumLaws', WHERE WHAT IT READS IS OF BULK AT MOST 1048576: true; the input reads as it did. -/
def typesSumLawsUptoRow : OpenClaim := { program := "ytdjgjnahfekdhaagreatdoor", sum := "0119a3d2444614ed0bfaf0bcb546af57b0d89490952610f270db32f3658a6e83", func := "madrigal/madrigallaw05.TypesSumLaws", spec := "typesSumLaws", inPlace := ["internal/bytealg.IndexByteString", "internal/bytealg.IndexString", "internal/abi.NoEscape", "internal/bytealg.CountString"], unfollowed := true, recurses := true, named := ["internal/strconv.uint64pow10", "math/bits.deBruijn32tab", "math/bits.deBruijn64tab", "internal/bytealg.MaxLen"], loops := true, plainKeys := false, apart := false, laid := [("math/bits.deBruijn32tab", laid_math_bits_deBruijn32tab), ("math/bits.deBruijn64tab", laid_math_bits_deBruijn64tab), ("internal/strconv.uint64pow10", laid_internal_strconv_uint64pow10)], narrowed := true }
def TypesSumLawsUptoSaid : Prop := typesSumLawsUptoRow.holds Tryz.pinned (OpenSpec.upto typesSumLawsSpec)

end Rows
end Go.Proofs.YtdjgjnahfekdhaaGreatDoor
