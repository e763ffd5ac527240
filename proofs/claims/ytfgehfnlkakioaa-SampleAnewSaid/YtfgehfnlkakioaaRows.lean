/-
  No cell of these rows narrows 'for every input' (looked for: loops, veiled, ifaces, maps, wideKeys, modest, calm, conditions, laid).
  DERIVED. THE GIVEN ROWS OF THIS SEAT. 16 by the template 'for every input the law returns true; each argument reads behind the call as it read before'; 0 by the template 'total and deterministic' (their statements: YtfgehfnlkakioaaTotals.lean).
  GIVEN WITH THE SEED: the statements are not yours to turn. If you find one false, say at which input.
  Laid BY PROGRAM, IN A SANDBOX (cutbox-rows.mjs): the forced cells as the released guide's own fill.sh prints them over the translation 3ce08d51ef2c00a9… (all of the seat's roots in one cut). By AI agents, Wed Nov 11 2026. No macro, syntax, notation, axiom, sorry.
-/
import Derived.Test.YtfgehfnlkakioaaChecked
import GoSem.Claim
import GoSem.ClaimJoined
import GoSem.ClaimMapViews
import Derived.JoinedTies
import Derived.KernelRfl
namespace Go.Proofs.Ytfgehfnlkakioaa
/- THE CELL 'sum', in the pinned program and in every row, IS THE sha256 OF THE DUMP (.gsa) THAT YtfgehfnlkakioaaProg.lean LOADS. Nothing in Lean hashes anything: it is a label: what it is worth is what the hold of that sum in a sandbox is worth. -/
noncomputable def Try.pinned : Pinned := { name := "ytfgehfnlkakioaa", sum := "3ce08d51ef2c00a976720c78c9ba079a3cb274047af096b231423cbc71661c20", checked := Try.checked }
namespace Rows
def none {H : Type} : Left H := { results := [], args := [] }

/-- 'remontoirelaw01.SatOver': WHATEVER THE INPUT: true; the input reads as it did. -/
def satOverSpec : ChangeSpec := { name := "satOver", fn := fun _ => fun
  | [d1, d2, d3] => { results := [.lit (.bool true)], args := [d1, d2, d3] }
  | _ => none }
def satOverRow : OpenClaim := { program := "ytfgehfnlkakioaa", sum := "3ce08d51ef2c00a976720c78c9ba079a3cb274047af096b231423cbc71661c20", func := "remontoire/remontoirelaw01.SatOver", spec := "satOver", inPlace := ["math/bits.Add64"], unfollowed := true, recurses := true, named := ["math/bits.divideError", "math/bits.overflowError"], apart := false }
def SatOverSaid : Prop := satOverRow.holds Try.pinned (OpenSpec.ofChange satOverSpec)

/-- ITS FALSE NEIGHBOUR: 'it returns false'. Refute it at one input. -/
def satOverWrong : ChangeSpec := { name := "satOver", fn := fun _ => fun
  | [d1, d2, d3] => { results := [.lit (.bool false)], args := [d1, d2, d3] }
  | _ => none }
def SatOverWrongFalsely : Prop := satOverRow.holds Try.pinned (OpenSpec.ofChange satOverWrong)

/-- 'remontoirelaw01.SatLaws': WHATEVER THE INPUT: true; the input reads as it did. -/
def satLawsSpec : ChangeSpec := { name := "satLaws", fn := fun _ => fun
  | [d1, d2, d3] => { results := [.lit (.bool true)], args := [d1, d2, d3] }
  | _ => none }
def satLawsRow : OpenClaim := { program := "ytfgehfnlkakioaa", sum := "3ce08d51ef2c00a976720c78c9ba079a3cb274047af096b231423cbc71661c20", func := "remontoire/remontoirelaw01.SatLaws", spec := "satLaws", inPlace := ["math/bits.Add64"], unfollowed := true, recurses := true, named := ["math/bits.divideError", "math/bits.overflowError"], apart := false }
def SatLawsSaid : Prop := satLawsRow.holds Try.pinned (OpenSpec.ofChange satLawsSpec)

/-- ITS FALSE NEIGHBOUR: 'it returns false'. Refute it at one input. -/
def satLawsWrong : ChangeSpec := { name := "satLaws", fn := fun _ => fun
  | [d1, d2, d3] => { results := [.lit (.bool false)], args := [d1, d2, d3] }
  | _ => none }
def SatLawsWrongFalsely : Prop := satLawsRow.holds Try.pinned (OpenSpec.ofChange satLawsWrong)

/-- 'remontoirelaw01.SatShifts': WHATEVER THE INPUT: true; the input reads as it did. -/
def satShiftsSpec : ChangeSpec := { name := "satShifts", fn := fun _ => fun
  | [d1, d2, d3, d4] => { results := [.lit (.bool true)], args := [d1, d2, d3, d4] }
  | _ => none }
def satShiftsRow : OpenClaim := { program := "ytfgehfnlkakioaa", sum := "3ce08d51ef2c00a976720c78c9ba079a3cb274047af096b231423cbc71661c20", func := "remontoire/remontoirelaw01.SatShifts", spec := "satShifts", inPlace := ["math/bits.Add64"], unfollowed := true, recurses := true, named := ["math/bits.divideError", "math/bits.overflowError"], apart := false }
def SatShiftsSaid : Prop := satShiftsRow.holds Try.pinned (OpenSpec.ofChange satShiftsSpec)

/-- ITS FALSE NEIGHBOUR: 'it returns false'. Refute it at one input. -/
def satShiftsWrong : ChangeSpec := { name := "satShifts", fn := fun _ => fun
  | [d1, d2, d3, d4] => { results := [.lit (.bool false)], args := [d1, d2, d3, d4] }
  | _ => none }
def SatShiftsWrongFalsely : Prop := satShiftsRow.holds Try.pinned (OpenSpec.ofChange satShiftsWrong)

/-- 'remontoirelaw01.SatSums': WHATEVER THE INPUT: true; the input reads as it did. -/
def satSumsSpec : ChangeSpec := { name := "satSums", fn := fun _ => fun
  | [d1, d2] => { results := [.lit (.bool true)], args := [d1, d2] }
  | _ => none }
def satSumsRow : OpenClaim := { program := "ytfgehfnlkakioaa", sum := "3ce08d51ef2c00a976720c78c9ba079a3cb274047af096b231423cbc71661c20", func := "remontoire/remontoirelaw01.SatSums", spec := "satSums", inPlace := ["math/bits.Add64"], unfollowed := true, recurses := true, named := ["math/bits.divideError", "math/bits.overflowError"], apart := false }
def SatSumsSaid : Prop := satSumsRow.holds Try.pinned (OpenSpec.ofChange satSumsSpec)

/-- ITS FALSE NEIGHBOUR: 'it returns false'. Refute it at one input. -/
def satSumsWrong : ChangeSpec := { name := "satSums", fn := fun _ => fun
  | [d1, d2] => { results := [.lit (.bool false)], args := [d1, d2] }
  | _ => none }
def SatSumsWrongFalsely : Prop := satSumsRow.holds Try.pinned (OpenSpec.ofChange satSumsWrong)

/-- 'remontoirelaw02.StampSplit': WHATEVER THE INPUT: true; the input reads as it did. -/
def stampSplitSpec : ChangeSpec := { name := "stampSplit", fn := fun _ => fun
  | [d1, d2] => { results := [.lit (.bool true)], args := [d1, d2] }
  | _ => none }
def stampSplitRow : OpenClaim := { program := "ytfgehfnlkakioaa", sum := "3ce08d51ef2c00a976720c78c9ba079a3cb274047af096b231423cbc71661c20", func := "remontoire/remontoirelaw02.StampSplit", spec := "stampSplit", inPlace := ["math/bits.Add64"], unfollowed := true, recurses := true, named := ["math/bits.divideError", "math/bits.overflowError"], apart := false }
def StampSplitSaid : Prop := stampSplitRow.holds Try.pinned (OpenSpec.ofChange stampSplitSpec)

/-- ITS FALSE NEIGHBOUR: 'it returns false'. Refute it at one input. -/
def stampSplitWrong : ChangeSpec := { name := "stampSplit", fn := fun _ => fun
  | [d1, d2] => { results := [.lit (.bool false)], args := [d1, d2] }
  | _ => none }
def StampSplitWrongFalsely : Prop := stampSplitRow.holds Try.pinned (OpenSpec.ofChange stampSplitWrong)

/-- 'remontoirelaw02.StampBack': WHATEVER THE INPUT: true; the input reads as it did. -/
def stampBackSpec : ChangeSpec := { name := "stampBack", fn := fun _ => fun
  | [d1, d2, d3] => { results := [.lit (.bool true)], args := [d1, d2, d3] }
  | _ => none }
def stampBackRow : OpenClaim := { program := "ytfgehfnlkakioaa", sum := "3ce08d51ef2c00a976720c78c9ba079a3cb274047af096b231423cbc71661c20", func := "remontoire/remontoirelaw02.StampBack", spec := "stampBack", inPlace := ["math/bits.Add64"], unfollowed := true, recurses := true, named := ["math/bits.divideError", "math/bits.overflowError"], apart := false }
def StampBackSaid : Prop := stampBackRow.holds Try.pinned (OpenSpec.ofChange stampBackSpec)

/-- ITS FALSE NEIGHBOUR: 'it returns false'. Refute it at one input. -/
def stampBackWrong : ChangeSpec := { name := "stampBack", fn := fun _ => fun
  | [d1, d2, d3] => { results := [.lit (.bool false)], args := [d1, d2, d3] }
  | _ => none }
def StampBackWrongFalsely : Prop := stampBackRow.holds Try.pinned (OpenSpec.ofChange stampBackWrong)

/-- 'remontoirelaw02.StampOf': WHATEVER THE INPUT: true; the input reads as it did. -/
def stampOfSpec : ChangeSpec := { name := "stampOf", fn := fun _ => fun
  | [d1, d2, d3] => { results := [.lit (.bool true)], args := [d1, d2, d3] }
  | _ => none }
def stampOfRow : OpenClaim := { program := "ytfgehfnlkakioaa", sum := "3ce08d51ef2c00a976720c78c9ba079a3cb274047af096b231423cbc71661c20", func := "remontoire/remontoirelaw02.StampOf", spec := "stampOf", inPlace := ["math/bits.Add64"], unfollowed := true, recurses := true, named := ["math/bits.divideError", "math/bits.overflowError"], apart := false }
def StampOfSaid : Prop := stampOfRow.holds Try.pinned (OpenSpec.ofChange stampOfSpec)

/-- ITS FALSE NEIGHBOUR: 'it returns false'. Refute it at one input. -/
def stampOfWrong : ChangeSpec := { name := "stampOf", fn := fun _ => fun
  | [d1, d2, d3] => { results := [.lit (.bool false)], args := [d1, d2, d3] }
  | _ => none }
def StampOfWrongFalsely : Prop := stampOfRow.holds Try.pinned (OpenSpec.ofChange stampOfWrong)

/-- 'remontoirelaw21.LoopSteps': WHATEVER THE INPUT: true; the input reads as it did. -/
def loopStepsSpec : ChangeSpec := { name := "loopSteps", fn := fun _ => fun
  | [d1, d2, d3, d4] => { results := [.lit (.bool true)], args := [d1, d2, d3, d4] }
  | _ => none }
def loopStepsRow : OpenClaim := { program := "ytfgehfnlkakioaa", sum := "3ce08d51ef2c00a976720c78c9ba079a3cb274047af096b231423cbc71661c20", func := "remontoire/remontoirelaw21.LoopSteps", spec := "loopSteps", inPlace := ["math/bits.Add64"], unfollowed := true, recurses := true, named := ["math/bits.divideError", "math/bits.overflowError"], apart := false }
def LoopStepsSaid : Prop := loopStepsRow.holds Try.pinned (OpenSpec.ofChange loopStepsSpec)

/-- ITS FALSE NEIGHBOUR: 'it returns false'. Refute it at one input. -/
def loopStepsWrong : ChangeSpec := { name := "loopSteps", fn := fun _ => fun
  | [d1, d2, d3, d4] => { results := [.lit (.bool false)], args := [d1, d2, d3, d4] }
  | _ => none }
def LoopStepsWrongFalsely : Prop := loopStepsRow.holds Try.pinned (OpenSpec.ofChange loopStepsWrong)

/-- 'remontoirelaw21.LoopHolds': WHATEVER THE INPUT: true; the input reads as it did. -/
def loopHoldsSpec : ChangeSpec := { name := "loopHolds", fn := fun _ => fun
  | [d1, d2, d3] => { results := [.lit (.bool true)], args := [d1, d2, d3] }
  | _ => none }
def loopHoldsRow : OpenClaim := { program := "ytfgehfnlkakioaa", sum := "3ce08d51ef2c00a976720c78c9ba079a3cb274047af096b231423cbc71661c20", func := "remontoire/remontoirelaw21.LoopHolds", spec := "loopHolds", inPlace := ["math/bits.Add64"], unfollowed := true, recurses := true, named := ["math/bits.divideError", "math/bits.overflowError"], apart := false }
def LoopHoldsSaid : Prop := loopHoldsRow.holds Try.pinned (OpenSpec.ofChange loopHoldsSpec)

/-- ITS FALSE NEIGHBOUR: 'it returns false'. Refute it at one input. -/
def loopHoldsWrong : ChangeSpec := { name := "loopHolds", fn := fun _ => fun
  | [d1, d2, d3] => { results := [.lit (.bool false)], args := [d1, d2, d3] }
  | _ => none }
def LoopHoldsWrongFalsely : Prop := loopHoldsRow.holds Try.pinned (OpenSpec.ofChange loopHoldsWrong)

/-- 'remontoirelaw20.SampleOffers': WHATEVER THE INPUT: true; the input reads as it did. -/
def sampleOffersSpec : ChangeSpec := { name := "sampleOffers", fn := fun _ => fun
  | [d1, d2, d3, d4, d5] => { results := [.lit (.bool true)], args := [d1, d2, d3, d4, d5] }
  | _ => none }
def sampleOffersRow : OpenClaim := { program := "ytfgehfnlkakioaa", sum := "3ce08d51ef2c00a976720c78c9ba079a3cb274047af096b231423cbc71661c20", func := "remontoire/remontoirelaw20.SampleOffers", spec := "sampleOffers", inPlace := ["math/bits.Add64"], unfollowed := true, recurses := true, named := ["math/bits.divideError", "math/bits.overflowError"], apart := false }
def SampleOffersSaid : Prop := sampleOffersRow.holds Try.pinned (OpenSpec.ofChange sampleOffersSpec)

/-- ITS FALSE NEIGHBOUR: 'it returns false'. Refute it at one input. -/
def sampleOffersWrong : ChangeSpec := { name := "sampleOffers", fn := fun _ => fun
  | [d1, d2, d3, d4, d5] => { results := [.lit (.bool false)], args := [d1, d2, d3, d4, d5] }
  | _ => none }
def SampleOffersWrongFalsely : Prop := sampleOffersRow.holds Try.pinned (OpenSpec.ofChange sampleOffersWrong)

/-- 'remontoirelaw20.SampleTaken': WHATEVER THE INPUT: true; the input reads as it did. -/
def sampleTakenSpec : ChangeSpec := { name := "sampleTaken", fn := fun _ => fun
  | [d1, d2, d3, d4, d5, d6, d7, d8] => { results := [.lit (.bool true)], args := [d1, d2, d3, d4, d5, d6, d7, d8] }
  | _ => none }
def sampleTakenRow : OpenClaim := { program := "ytfgehfnlkakioaa", sum := "3ce08d51ef2c00a976720c78c9ba079a3cb274047af096b231423cbc71661c20", func := "remontoire/remontoirelaw20.SampleTaken", spec := "sampleTaken", inPlace := ["math/bits.Add64"], unfollowed := true, recurses := true, named := ["math/bits.divideError", "math/bits.overflowError"], apart := false }
def SampleTakenSaid : Prop := sampleTakenRow.holds Try.pinned (OpenSpec.ofChange sampleTakenSpec)

/-- ITS FALSE NEIGHBOUR: 'it returns false'. Refute it at one input. -/
def sampleTakenWrong : ChangeSpec := { name := "sampleTaken", fn := fun _ => fun
  | [d1, d2, d3, d4, d5, d6, d7, d8] => { results := [.lit (.bool false)], args := [d1, d2, d3, d4, d5, d6, d7, d8] }
  | _ => none }
def SampleTakenWrongFalsely : Prop := sampleTakenRow.holds Try.pinned (OpenSpec.ofChange sampleTakenWrong)

/-- 'remontoirelaw20.SampleAnew': WHATEVER THE INPUT: true; the input reads as it did. -/
def sampleAnewSpec : ChangeSpec := { name := "sampleAnew", fn := fun _ => fun
  | [d1, d2, d3, d4, d5, d6] => { results := [.lit (.bool true)], args := [d1, d2, d3, d4, d5, d6] }
  | _ => none }
def sampleAnewRow : OpenClaim := { program := "ytfgehfnlkakioaa", sum := "3ce08d51ef2c00a976720c78c9ba079a3cb274047af096b231423cbc71661c20", func := "remontoire/remontoirelaw20.SampleAnew", spec := "sampleAnew", inPlace := ["math/bits.Add64"], unfollowed := true, recurses := true, named := ["math/bits.divideError", "math/bits.overflowError"], apart := false }
def SampleAnewSaid : Prop := sampleAnewRow.holds Try.pinned (OpenSpec.ofChange sampleAnewSpec)

/-- ITS FALSE NEIGHBOUR: 'it returns false'. Refute it at one input. -/
def sampleAnewWrong : ChangeSpec := { name := "sampleAnew", fn := fun _ => fun
  | [d1, d2, d3, d4, d5, d6] => { results := [.lit (.bool false)], args := [d1, d2, d3, d4, d5, d6] }
  | _ => none }
def SampleAnewWrongFalsely : Prop := sampleAnewRow.holds Try.pinned (OpenSpec.ofChange sampleAnewWrong)

/-- 'remontoirelaw22.AgeingLine': WHATEVER THE INPUT: true; the input reads as it did. -/
def ageingLineSpec : ChangeSpec := { name := "ageingLine", fn := fun _ => fun
  | [d1, d2, d3, d4] => { results := [.lit (.bool true)], args := [d1, d2, d3, d4] }
  | _ => none }
def ageingLineRow : OpenClaim := { program := "ytfgehfnlkakioaa", sum := "3ce08d51ef2c00a976720c78c9ba079a3cb274047af096b231423cbc71661c20", func := "remontoire/remontoirelaw22.AgeingLine", spec := "ageingLine", inPlace := ["math/bits.Add64"], unfollowed := true, recurses := true, named := ["math/bits.divideError", "math/bits.overflowError"], apart := false }
def AgeingLineSaid : Prop := ageingLineRow.holds Try.pinned (OpenSpec.ofChange ageingLineSpec)

/-- ITS FALSE NEIGHBOUR: 'it returns false'. Refute it at one input. -/
def ageingLineWrong : ChangeSpec := { name := "ageingLine", fn := fun _ => fun
  | [d1, d2, d3, d4] => { results := [.lit (.bool false)], args := [d1, d2, d3, d4] }
  | _ => none }
def AgeingLineWrongFalsely : Prop := ageingLineRow.holds Try.pinned (OpenSpec.ofChange ageingLineWrong)

/-- 'remontoirelaw22.AgeingNone': WHATEVER THE INPUT: true; the input reads as it did. -/
def ageingNoneSpec : ChangeSpec := { name := "ageingNone", fn := fun _ => fun
  | [d1, d2] => { results := [.lit (.bool true)], args := [d1, d2] }
  | _ => none }
def ageingNoneRow : OpenClaim := { program := "ytfgehfnlkakioaa", sum := "3ce08d51ef2c00a976720c78c9ba079a3cb274047af096b231423cbc71661c20", func := "remontoire/remontoirelaw22.AgeingNone", spec := "ageingNone", inPlace := ["math/bits.Add64"], unfollowed := true, recurses := true, named := ["math/bits.divideError", "math/bits.overflowError"], apart := false }
def AgeingNoneSaid : Prop := ageingNoneRow.holds Try.pinned (OpenSpec.ofChange ageingNoneSpec)

/-- ITS FALSE NEIGHBOUR: 'it returns false'. Refute it at one input. -/
def ageingNoneWrong : ChangeSpec := { name := "ageingNone", fn := fun _ => fun
  | [d1, d2] => { results := [.lit (.bool false)], args := [d1, d2] }
  | _ => none }
def AgeingNoneWrongFalsely : Prop := ageingNoneRow.holds Try.pinned (OpenSpec.ofChange ageingNoneWrong)

/-- 'remontoirelaw23.ClockHonest': WHATEVER THE INPUT: true; the input reads as it did. -/
def clockHonestSpec : ChangeSpec := { name := "clockHonest", fn := fun _ => fun
  | [d1, d2, d3] => { results := [.lit (.bool true)], args := [d1, d2, d3] }
  | _ => none }
def clockHonestRow : OpenClaim := { program := "ytfgehfnlkakioaa", sum := "3ce08d51ef2c00a976720c78c9ba079a3cb274047af096b231423cbc71661c20", func := "remontoire/remontoirelaw23.ClockHonest", spec := "clockHonest", inPlace := ["math/bits.Add64"], unfollowed := true, recurses := true, named := ["math/bits.divideError", "math/bits.overflowError"], apart := false }
def ClockHonestSaid : Prop := clockHonestRow.holds Try.pinned (OpenSpec.ofChange clockHonestSpec)

/-- ITS FALSE NEIGHBOUR: 'it returns false'. Refute it at one input. -/
def clockHonestWrong : ChangeSpec := { name := "clockHonest", fn := fun _ => fun
  | [d1, d2, d3] => { results := [.lit (.bool false)], args := [d1, d2, d3] }
  | _ => none }
def ClockHonestWrongFalsely : Prop := clockHonestRow.holds Try.pinned (OpenSpec.ofChange clockHonestWrong)

/-- 'remontoirelaw23.ClockReads': WHATEVER THE INPUT: true; the input reads as it did. -/
def clockReadsSpec : ChangeSpec := { name := "clockReads", fn := fun _ => fun
  | [d1, d2, d3, d4] => { results := [.lit (.bool true)], args := [d1, d2, d3, d4] }
  | _ => none }
def clockReadsRow : OpenClaim := { program := "ytfgehfnlkakioaa", sum := "3ce08d51ef2c00a976720c78c9ba079a3cb274047af096b231423cbc71661c20", func := "remontoire/remontoirelaw23.ClockReads", spec := "clockReads", inPlace := ["math/bits.Add64"], unfollowed := true, recurses := true, named := ["math/bits.divideError", "math/bits.overflowError"], apart := false }
def ClockReadsSaid : Prop := clockReadsRow.holds Try.pinned (OpenSpec.ofChange clockReadsSpec)

/-- ITS FALSE NEIGHBOUR: 'it returns false'. Refute it at one input. -/
def clockReadsWrong : ChangeSpec := { name := "clockReads", fn := fun _ => fun
  | [d1, d2, d3, d4] => { results := [.lit (.bool false)], args := [d1, d2, d3, d4] }
  | _ => none }
def ClockReadsWrongFalsely : Prop := clockReadsRow.holds Try.pinned (OpenSpec.ofChange clockReadsWrong)

/- THE SECOND FORM. 'bulk': how many values and letters a reading holds, each counted each time it is reached (what is shared counts as often as it is met; a slice's spare places count too). A statement '..UptoSaid' is the law's where the arguments, and the package variables that the reading takes, are together of bulk at most 1048576: NARROWER than '..Said'. Prove '..Said' where nothing that the law and all that it calls make is longer than what came in: it says more and counts as full. Else prove '..UptoSaid'. A law counts once. -/
mutual
def uptoBulk {H : Type} : DataW H → Nat
  | .lit (.string bytes) => bytes.length + 1
  | .lit _ => 1
  | .nil => 1
  | .ptr d => uptoBulk d + 1
  | .slice elems spare => uptoBulkAll elems + uptoBulkAll spare + 1
  | .agg parts => uptoBulkAll parts + 1
  | .iface _ d => uptoBulk d + 1
  | .map entries => uptoBulkEntries entries + 1
  | .held _ => 1
def uptoBulkAll {H : Type} : List (DataW H) → Nat
  | [] => 0
  | d :: r => uptoBulk d + uptoBulkAll r
def uptoBulkEntries {H : Type} : List (Lit × DataW H) → Nat
  | [] => 0
  | x :: r => uptoBulkEntry x + uptoBulkEntries r
def uptoBulkEntry {H : Type} : Lit × DataW H → Nat
  | (.string bytes, d) => bytes.length + uptoBulk d + 1
  | (_, d) => uptoBulk d + 1
 end
def uptoSmall : (H : Type) → List (DataW H) → Bool := fun _ ds => decide (uptoBulkAll ds ≤ 1048576)
def OpenSpec.upto (s : _root_.Go.ChangeSpec) : _root_.Go.OpenSpec := { _root_.Go.OpenSpec.ofChange s with cond := some uptoSmall }

/-- 'remontoirelaw01.SatOver', WHERE WHAT IT READS IS OF BULK AT MOST 1048576: true; the input reads as it did. -/
def satOverUptoRow : OpenClaim := { program := "ytfgehfnlkakioaa", sum := "3ce08d51ef2c00a976720c78c9ba079a3cb274047af096b231423cbc71661c20", func := "remontoire/remontoirelaw01.SatOver", spec := "satOver", inPlace := ["math/bits.Add64"], unfollowed := true, recurses := true, named := ["math/bits.divideError", "math/bits.overflowError"], apart := false, narrowed := true }
def SatOverUptoSaid : Prop := satOverUptoRow.holds Try.pinned (OpenSpec.upto satOverSpec)

/-- 'remontoirelaw01.SatLaws', WHERE WHAT IT READS IS OF BULK AT MOST 1048576: true; the input reads as it did. -/
def satLawsUptoRow : OpenClaim := { program := "ytfgehfnlkakioaa", sum := "3ce08d51ef2c00a976720c78c9ba079a3cb274047af096b231423cbc71661c20", func := "remontoire/remontoirelaw01.SatLaws", spec := "satLaws", inPlace := ["math/bits.Add64"], unfollowed := true, recurses := true, named := ["math/bits.divideError", "math/bits.overflowError"], apart := false, narrowed := true }
def SatLawsUptoSaid : Prop := satLawsUptoRow.holds Try.pinned (OpenSpec.upto satLawsSpec)

/-- 'remontoirelaw01.SatShifts', WHERE WHAT IT READS IS OF BULK AT MOST 1048576: true; the input reads as it did. -/
def satShiftsUptoRow : OpenClaim := { program := "ytfgehfnlkakioaa", sum := "3ce08d51ef2c00a976720c78c9ba079a3cb274047af096b231423cbc71661c20", func := "remontoire/remontoirelaw01.SatShifts", spec := "satShifts", inPlace := ["math/bits.Add64"], unfollowed := true, recurses := true, named := ["math/bits.divideError", "math/bits.overflowError"], apart := false, narrowed := true }
def SatShiftsUptoSaid : Prop := satShiftsUptoRow.holds Try.pinned (OpenSpec.upto satShiftsSpec)

/-- 'remontoirelaw01.SatSums', WHERE WHAT IT READS IS OF BULK AT MOST 1048576: true; the input reads as it did. -/
def satSumsUptoRow : OpenClaim := { program := "ytfgehfnlkakioaa", sum := "3ce08d51ef2c00a976720c78c9ba079a3cb274047af096b231423cbc71661c20", func := "remontoire/remontoirelaw01.SatSums", spec := "satSums", inPlace := ["math/bits.Add64"], unfollowed := true, recurses := true, named := ["math/bits.divideError", "math/bits.overflowError"], apart := false, narrowed := true }
def SatSumsUptoSaid : Prop := satSumsUptoRow.holds Try.pinned (OpenSpec.upto satSumsSpec)

/-- 'remontoirelaw02.StampSplit', WHERE WHAT IT READS IS OF BULK AT MOST 1048576: true; the input reads as it did. -/
def stampSplitUptoRow : OpenClaim := { program := "ytfgehfnlkakioaa", sum := "3ce08d51ef2c00a976720c78c9ba079a3cb274047af096b231423cbc71661c20", func := "remontoire/remontoirelaw02.StampSplit", spec := "stampSplit", inPlace := ["math/bits.Add64"], unfollowed := true, recurses := true, named := ["math/bits.divideError", "math/bits.overflowError"], apart := false, narrowed := true }
def StampSplitUptoSaid : Prop := stampSplitUptoRow.holds Try.pinned (OpenSpec.upto stampSplitSpec)

/-- 'remontoirelaw02.StampBack', WHERE WHAT IT READS IS OF BULK AT MOST 1048576: true; the input reads as it did. -/
def stampBackUptoRow : OpenClaim := { program := "ytfgehfnlkakioaa", sum := "3ce08d51ef2c00a976720c78c9ba079a3cb274047af096b231423cbc71661c20", func := "remontoire/remontoirelaw02.StampBack", spec := "stampBack", inPlace := ["math/bits.Add64"], unfollowed := true, recurses := true, named := ["math/bits.divideError", "math/bits.overflowError"], apart := false, narrowed := true }
def StampBackUptoSaid : Prop := stampBackUptoRow.holds Try.pinned (OpenSpec.upto stampBackSpec)

/-- 'remontoirelaw02.StampOf', WHERE WHAT IT READS IS OF BULK AT MOST 1048576: true; the input reads as it did. -/
def stampOfUptoRow : OpenClaim := { program := "ytfgehfnlkakioaa", sum := "3ce08d51ef2c00a976720c78c9ba079a3cb274047af096b231423cbc71661c20", func := "remontoire/remontoirelaw02.StampOf", spec := "stampOf", inPlace := ["math/bits.Add64"], unfollowed := true, recurses := true, named := ["math/bits.divideError", "math/bits.overflowError"], apart := false, narrowed := true }
def StampOfUptoSaid : Prop := stampOfUptoRow.holds Try.pinned (OpenSpec.upto stampOfSpec)

/-- 'remontoirelaw21.LoopSteps', WHERE WHAT IT READS IS OF BULK AT MOST 1048576: true; the input reads as it did. -/
def loopStepsUptoRow : OpenClaim := { program := "ytfgehfnlkakioaa", sum := "3ce08d51ef2c00a976720c78c9ba079a3cb274047af096b231423cbc71661c20", func := "remontoire/remontoirelaw21.LoopSteps", spec := "loopSteps", inPlace := ["math/bits.Add64"], unfollowed := true, recurses := true, named := ["math/bits.divideError", "math/bits.overflowError"], apart := false, narrowed := true }
def LoopStepsUptoSaid : Prop := loopStepsUptoRow.holds Try.pinned (OpenSpec.upto loopStepsSpec)

/-- 'remontoirelaw21.LoopHolds', WHERE WHAT IT READS IS OF BULK AT MOST 1048576: true; the input reads as it did. -/
def loopHoldsUptoRow : OpenClaim := { program := "ytfgehfnlkakioaa", sum := "3ce08d51ef2c00a976720c78c9ba079a3cb274047af096b231423cbc71661c20", func := "remontoire/remontoirelaw21.LoopHolds", spec := "loopHolds", inPlace := ["math/bits.Add64"], unfollowed := true, recurses := true, named := ["math/bits.divideError", "math/bits.overflowError"], apart := false, narrowed := true }
def LoopHoldsUptoSaid : Prop := loopHoldsUptoRow.holds Try.pinned (OpenSpec.upto loopHoldsSpec)

/-- 'remontoirelaw20.SampleOffers', WHERE WHAT IT READS IS OF BULK AT MOST 1048576: true; the input reads as it did. -/
def sampleOffersUptoRow : OpenClaim := { program := "ytfgehfnlkakioaa", sum := "3ce08d51ef2c00a976720c78c9ba079a3cb274047af096b231423cbc71661c20", func := "remontoire/remontoirelaw20.SampleOffers", spec := "sampleOffers", inPlace := ["math/bits.Add64"], unfollowed := true, recurses := true, named := ["math/bits.divideError", "math/bits.overflowError"], apart := false, narrowed := true }
def SampleOffersUptoSaid : Prop := sampleOffersUptoRow.holds Try.pinned (OpenSpec.upto sampleOffersSpec)

/-- 'remontoirelaw20.SampleTaken', WHERE WHAT IT READS IS OF BULK AT MOST 1048576: true; the input reads as it did. -/
def sampleTakenUptoRow : OpenClaim := { program := "ytfgehfnlkakioaa", sum := "3ce08d51ef2c00a976720c78c9ba079a3cb274047af096b231423cbc71661c20", func := "remontoire/remontoirelaw20.SampleTaken", spec := "sampleTaken", inPlace := ["math/bits.Add64"], unfollowed := true, recurses := true, named := ["math/bits.divideError", "math/bits.overflowError"], apart := false, narrowed := true }
def SampleTakenUptoSaid : Prop := sampleTakenUptoRow.holds Try.pinned (OpenSpec.upto sampleTakenSpec)

/-- 'remontoirelaw20.SampleAnew', WHERE WHAT IT READS IS OF BULK AT MOST 1048576: true; the input reads as it did. -/
def sampleAnewUptoRow : OpenClaim := { program := "ytfgehfnlkakioaa", sum := "3ce08d51ef2c00a976720c78c9ba079a3cb274047af096b231423cbc71661c20", func := "remontoire/remontoirelaw20.SampleAnew", spec := "sampleAnew", inPlace := ["math/bits.Add64"], unfollowed := true, recurses := true, named := ["math/bits.divideError", "math/bits.overflowError"], apart := false, narrowed := true }
def SampleAnewUptoSaid : Prop := sampleAnewUptoRow.holds Try.pinned (OpenSpec.upto sampleAnewSpec)

/-- 'remontoirelaw22.AgeingLine', WHERE WHAT IT READS IS OF BULK AT MOST 1048576: true; the input reads as it did. -/
def ageingLineUptoRow : OpenClaim := { program := "ytfgehfnlkakioaa", sum := "3ce08d51ef2c00a976720c78c9ba079a3cb274047af096b231423cbc71661c20", func := "remontoire/remontoirelaw22.AgeingLine", spec := "ageingLine", inPlace := ["math/bits.Add64"], unfollowed := true, recurses := true, named := ["math/bits.divideError", "math/bits.overflowError"], apart := false, narrowed := true }
def AgeingLineUptoSaid : Prop := ageingLineUptoRow.holds Try.pinned (OpenSpec.upto ageingLineSpec)

/-- 'remontoirelaw22.AgeingNone', WHERE WHAT IT READS IS OF BULK AT MOST 1048576: true; the input reads as it did. -/
def ageingNoneUptoRow : OpenClaim := { program := "ytfgehfnlkakioaa", sum := "3ce08d51ef2c00a976720c78c9ba079a3cb274047af096b231423cbc71661c20", func := "remontoire/remontoirelaw22.AgeingNone", spec := "ageingNone", inPlace := ["math/bits.Add64"], unfollowed := true, recurses := true, named := ["math/bits.divideError", "math/bits.overflowError"], apart := false, narrowed := true }
def AgeingNoneUptoSaid : Prop := ageingNoneUptoRow.holds Try.pinned (OpenSpec.upto ageingNoneSpec)

/-- 'remontoirelaw23.ClockHonest', WHERE WHAT IT READS IS OF BULK AT MOST 1048576: true; the input reads as it did. -/
def clockHonestUptoRow : OpenClaim := { program := "ytfgehfnlkakioaa", sum := "3ce08d51ef2c00a976720c78c9ba079a3cb274047af096b231423cbc71661c20", func := "remontoire/remontoirelaw23.ClockHonest", spec := "clockHonest", inPlace := ["math/bits.Add64"], unfollowed := true, recurses := true, named := ["math/bits.divideError", "math/bits.overflowError"], apart := false, narrowed := true }
def ClockHonestUptoSaid : Prop := clockHonestUptoRow.holds Try.pinned (OpenSpec.upto clockHonestSpec)

/-- 'remontoirelaw23.ClockReads', WHERE WHAT IT READS IS OF BULK AT MOST 1048576: true; the input reads as it did. -/
def clockReadsUptoRow : OpenClaim := { program := "ytfgehfnlkakioaa", sum := "3ce08d51ef2c00a976720c78c9ba079a3cb274047af096b231423cbc71661c20", func := "remontoire/remontoirelaw23.ClockReads", spec := "clockReads", inPlace := ["math/bits.Add64"], unfollowed := true, recurses := true, named := ["math/bits.divideError", "math/bits.overflowError"], apart := false, narrowed := true }
def ClockReadsUptoSaid : Prop := clockReadsUptoRow.holds Try.pinned (OpenSpec.upto clockReadsSpec)

end Rows
end Go.Proofs.Ytfgehfnlkakioaa
