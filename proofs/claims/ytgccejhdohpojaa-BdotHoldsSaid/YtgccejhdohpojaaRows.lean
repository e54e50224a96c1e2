/-
  No cell of these rows narrows 'for every input' (looked for: loops, veiled, ifaces, maps, wideKeys, modest, calm, conditions, laid).
  DERIVED. THE GIVEN ROWS OF THIS SEAT. 34 by the template 'for every input the law returns true; each argument reads behind the call as it read before'; 0 by the template 'total and deterministic' (their statements: YtgccejhdohpojaaTotals.lean).
  GIVEN WITH THE SEED: the statements are not yours to turn. If you find one false, say at which input.
  Laid BY PROGRAM, IN A SANDBOX (cutbox-rows.mjs): the forced cells as the released guide's own fill.sh prints them over the translation 16972efcf8ada3b3… (all of the seat's roots in one cut). By AI agents, Wed Nov 11 2026. No macro, syntax, notation, axiom, sorry.
-/
import Derived.Test.YtgccejhdohpojaaChecked
import GoSem.Claim
import GoSem.ClaimJoined
import GoSem.ClaimMapViews
import Derived.JoinedTies
import Derived.KernelRfl
namespace Go.Proofs.Ytgccejhdohpojaa
/- THE CELL 'sum', in the pinned program and in every row, IS THE sha256 OF THE DUMP (.gsa) THAT YtgccejhdohpojaaProg.lean LOADS. Nothing in Lean hashes anything: it is a label: what it is worth is what the hold of that sum in a sandbox is worth. -/
noncomputable def Try.pinned : Pinned := { name := "ytgccejhdohpojaa", sum := "16972efcf8ada3b3cdaba5b380d72e755cfcf93af2d8288588f2ab9f54f92da3", checked := Try.checked }
namespace Rows
def none {H : Type} : Left H := { results := [], args := [] }

/-- 'alidadelaw07.ClockDays': WHATEVER THE INPUT: true; the input reads as it did. -/
def clockDaysSpec : ChangeSpec := { name := "clockDays", fn := fun _ => fun
  | [d1, d2] => { results := [.lit (.bool true)], args := [d1, d2] }
  | _ => none }
def clockDaysRow : OpenClaim := { program := "ytgccejhdohpojaa", sum := "16972efcf8ada3b3cdaba5b380d72e755cfcf93af2d8288588f2ab9f54f92da3", func := "alidade/alidadelaw07.ClockDays", spec := "clockDays", named := ["math/bits.divideError", "math/bits.overflowError"], apart := false }
def ClockDaysSaid : Prop := clockDaysRow.holds Try.pinned (OpenSpec.ofChange clockDaysSpec)

/-- ITS FALSE NEIGHBOUR: 'it returns false'. Refute it at one input. -/
def clockDaysWrong : ChangeSpec := { name := "clockDays", fn := fun _ => fun
  | [d1, d2] => { results := [.lit (.bool false)], args := [d1, d2] }
  | _ => none }
def ClockDaysWrongFalsely : Prop := clockDaysRow.holds Try.pinned (OpenSpec.ofChange clockDaysWrong)

/-- 'alidadelaw03.VecScale': WHATEVER THE INPUT: true; the input reads as it did. -/
def vecScaleSpec : ChangeSpec := { name := "vecScale", fn := fun _ => fun
  | [d1, d2, d3] => { results := [.lit (.bool true)], args := [d1, d2, d3] }
  | _ => none }
def vecScaleRow : OpenClaim := { program := "ytgccejhdohpojaa", sum := "16972efcf8ada3b3cdaba5b380d72e755cfcf93af2d8288588f2ab9f54f92da3", func := "alidade/alidadelaw03.VecScale", spec := "vecScale", unfollowed := true, recurses := true, named := ["math/bits.divideError", "math/bits.overflowError"], apart := false }
def VecScaleSaid : Prop := vecScaleRow.holds Try.pinned (OpenSpec.ofChange vecScaleSpec)

/-- ITS FALSE NEIGHBOUR: 'it returns false'. Refute it at one input. -/
def vecScaleWrong : ChangeSpec := { name := "vecScale", fn := fun _ => fun
  | [d1, d2, d3] => { results := [.lit (.bool false)], args := [d1, d2, d3] }
  | _ => none }
def VecScaleWrongFalsely : Prop := vecScaleRow.holds Try.pinned (OpenSpec.ofChange vecScaleWrong)

/-- 'alidadelaw03.VecProducts': WHATEVER THE INPUT: true; the input reads as it did. -/
def vecProductsSpec : ChangeSpec := { name := "vecProducts", fn := fun _ => fun
  | [d1, d2, d3] => { results := [.lit (.bool true)], args := [d1, d2, d3] }
  | _ => none }
def vecProductsRow : OpenClaim := { program := "ytgccejhdohpojaa", sum := "16972efcf8ada3b3cdaba5b380d72e755cfcf93af2d8288588f2ab9f54f92da3", func := "alidade/alidadelaw03.VecProducts", spec := "vecProducts", unfollowed := true, recurses := true, named := ["math/bits.divideError", "math/bits.overflowError"], apart := false }
def VecProductsSaid : Prop := vecProductsRow.holds Try.pinned (OpenSpec.ofChange vecProductsSpec)

/-- ITS FALSE NEIGHBOUR: 'it returns false'. Refute it at one input. -/
def vecProductsWrong : ChangeSpec := { name := "vecProducts", fn := fun _ => fun
  | [d1, d2, d3] => { results := [.lit (.bool false)], args := [d1, d2, d3] }
  | _ => none }
def VecProductsWrongFalsely : Prop := vecProductsRow.holds Try.pinned (OpenSpec.ofChange vecProductsWrong)

/-- 'alidadelaw03.VecSums': WHATEVER THE INPUT: true; the input reads as it did. -/
def vecSumsSpec : ChangeSpec := { name := "vecSums", fn := fun _ => fun
  | [d1, d2, d3] => { results := [.lit (.bool true)], args := [d1, d2, d3] }
  | _ => none }
def vecSumsRow : OpenClaim := { program := "ytgccejhdohpojaa", sum := "16972efcf8ada3b3cdaba5b380d72e755cfcf93af2d8288588f2ab9f54f92da3", func := "alidade/alidadelaw03.VecSums", spec := "vecSums", unfollowed := true, recurses := true, named := ["math/bits.divideError", "math/bits.overflowError"], apart := false }
def VecSumsSaid : Prop := vecSumsRow.holds Try.pinned (OpenSpec.ofChange vecSumsSpec)

/-- ITS FALSE NEIGHBOUR: 'it returns false'. Refute it at one input. -/
def vecSumsWrong : ChangeSpec := { name := "vecSums", fn := fun _ => fun
  | [d1, d2, d3] => { results := [.lit (.bool false)], args := [d1, d2, d3] }
  | _ => none }
def VecSumsWrongFalsely : Prop := vecSumsRow.holds Try.pinned (OpenSpec.ofChange vecSumsWrong)

/-- 'alidadelaw07.ClockTurns': WHATEVER THE INPUT: true; the input reads as it did. -/
def clockTurnsSpec : ChangeSpec := { name := "clockTurns", fn := fun _ => fun
  | [d1, d2] => { results := [.lit (.bool true)], args := [d1, d2] }
  | _ => none }
def clockTurnsRow : OpenClaim := { program := "ytgccejhdohpojaa", sum := "16972efcf8ada3b3cdaba5b380d72e755cfcf93af2d8288588f2ab9f54f92da3", func := "alidade/alidadelaw07.ClockTurns", spec := "clockTurns", named := ["math/bits.divideError", "math/bits.overflowError"], apart := false }
def ClockTurnsSaid : Prop := clockTurnsRow.holds Try.pinned (OpenSpec.ofChange clockTurnsSpec)

/-- ITS FALSE NEIGHBOUR: 'it returns false'. Refute it at one input. -/
def clockTurnsWrong : ChangeSpec := { name := "clockTurns", fn := fun _ => fun
  | [d1, d2] => { results := [.lit (.bool false)], args := [d1, d2] }
  | _ => none }
def ClockTurnsWrongFalsely : Prop := clockTurnsRow.holds Try.pinned (OpenSpec.ofChange clockTurnsWrong)

/-- 'alidadelaw07.ClockDaily': WHATEVER THE INPUT: true; the input reads as it did. -/
def clockDailySpec : ChangeSpec := { name := "clockDaily", fn := fun _ => fun
  | [d] => { results := [.lit (.bool true)], args := [d] }
  | _ => none }
def clockDailyRow : OpenClaim := { program := "ytgccejhdohpojaa", sum := "16972efcf8ada3b3cdaba5b380d72e755cfcf93af2d8288588f2ab9f54f92da3", func := "alidade/alidadelaw07.ClockDaily", spec := "clockDaily", named := ["math/bits.divideError", "math/bits.overflowError"], apart := false }
def ClockDailySaid : Prop := clockDailyRow.holds Try.pinned (OpenSpec.ofChange clockDailySpec)

/-- ITS FALSE NEIGHBOUR: 'it returns false'. Refute it at one input. -/
def clockDailyWrong : ChangeSpec := { name := "clockDaily", fn := fun _ => fun
  | [d] => { results := [.lit (.bool false)], args := [d] }
  | _ => none }
def ClockDailyWrongFalsely : Prop := clockDailyRow.holds Try.pinned (OpenSpec.ofChange clockDailyWrong)

/-- 'alidadelaw13.BdotSteps': WHATEVER THE INPUT: true; the input reads as it did. -/
def bdotStepsSpec : ChangeSpec := { name := "bdotSteps", fn := fun _ => fun
  | [d1, d2, d3] => { results := [.lit (.bool true)], args := [d1, d2, d3] }
  | _ => none }
def bdotStepsRow : OpenClaim := { program := "ytgccejhdohpojaa", sum := "16972efcf8ada3b3cdaba5b380d72e755cfcf93af2d8288588f2ab9f54f92da3", func := "alidade/alidadelaw13.BdotSteps", spec := "bdotSteps", unfollowed := true, recurses := true, named := ["math/bits.divideError", "math/bits.overflowError"], apart := false }
def BdotStepsSaid : Prop := bdotStepsRow.holds Try.pinned (OpenSpec.ofChange bdotStepsSpec)

/-- ITS FALSE NEIGHBOUR: 'it returns false'. Refute it at one input. -/
def bdotStepsWrong : ChangeSpec := { name := "bdotSteps", fn := fun _ => fun
  | [d1, d2, d3] => { results := [.lit (.bool false)], args := [d1, d2, d3] }
  | _ => none }
def BdotStepsWrongFalsely : Prop := bdotStepsRow.holds Try.pinned (OpenSpec.ofChange bdotStepsWrong)

/-- 'alidadelaw13.BdotDipole': WHATEVER THE INPUT: true; the input reads as it did. -/
def bdotDipoleSpec : ChangeSpec := { name := "bdotDipole", fn := fun _ => fun
  | [d1, d2] => { results := [.lit (.bool true)], args := [d1, d2] }
  | _ => none }
def bdotDipoleRow : OpenClaim := { program := "ytgccejhdohpojaa", sum := "16972efcf8ada3b3cdaba5b380d72e755cfcf93af2d8288588f2ab9f54f92da3", func := "alidade/alidadelaw13.BdotDipole", spec := "bdotDipole", unfollowed := true, recurses := true, named := ["math/bits.divideError", "math/bits.overflowError"], apart := false }
def BdotDipoleSaid : Prop := bdotDipoleRow.holds Try.pinned (OpenSpec.ofChange bdotDipoleSpec)

/-- ITS FALSE NEIGHBOUR: 'it returns false'. Refute it at one input. -/
def bdotDipoleWrong : ChangeSpec := { name := "bdotDipole", fn := fun _ => fun
  | [d1, d2] => { results := [.lit (.bool false)], args := [d1, d2] }
  | _ => none }
def BdotDipoleWrongFalsely : Prop := bdotDipoleRow.holds Try.pinned (OpenSpec.ofChange bdotDipoleWrong)

/-- 'alidadelaw13.BdotAgainst': WHATEVER THE INPUT: true; the input reads as it did. -/
def bdotAgainstSpec : ChangeSpec := { name := "bdotAgainst", fn := fun _ => fun
  | [d] => { results := [.lit (.bool true)], args := [d] }
  | _ => none }
def bdotAgainstRow : OpenClaim := { program := "ytgccejhdohpojaa", sum := "16972efcf8ada3b3cdaba5b380d72e755cfcf93af2d8288588f2ab9f54f92da3", func := "alidade/alidadelaw13.BdotAgainst", spec := "bdotAgainst", unfollowed := true, recurses := true, named := ["math/bits.divideError", "math/bits.overflowError"], apart := false }
def BdotAgainstSaid : Prop := bdotAgainstRow.holds Try.pinned (OpenSpec.ofChange bdotAgainstSpec)

/-- ITS FALSE NEIGHBOUR: 'it returns false'. Refute it at one input. -/
def bdotAgainstWrong : ChangeSpec := { name := "bdotAgainst", fn := fun _ => fun
  | [d] => { results := [.lit (.bool false)], args := [d] }
  | _ => none }
def BdotAgainstWrongFalsely : Prop := bdotAgainstRow.holds Try.pinned (OpenSpec.ofChange bdotAgainstWrong)

/-- 'alidadelaw13.BdotHolds': WHATEVER THE INPUT: true; the input reads as it did. -/
def bdotHoldsSpec : ChangeSpec := { name := "bdotHolds", fn := fun _ => fun
  | [d1, d2] => { results := [.lit (.bool true)], args := [d1, d2] }
  | _ => none }
def bdotHoldsRow : OpenClaim := { program := "ytgccejhdohpojaa", sum := "16972efcf8ada3b3cdaba5b380d72e755cfcf93af2d8288588f2ab9f54f92da3", func := "alidade/alidadelaw13.BdotHolds", spec := "bdotHolds", unfollowed := true, recurses := true, named := ["math/bits.divideError", "math/bits.overflowError"], apart := false }
def BdotHoldsSaid : Prop := bdotHoldsRow.holds Try.pinned (OpenSpec.ofChange bdotHoldsSpec)

/-- ITS FALSE NEIGHBOUR: 'it returns false'. Refute it at one input. -/
def bdotHoldsWrong : ChangeSpec := { name := "bdotHolds", fn := fun _ => fun
  | [d1, d2] => { results := [.lit (.bool false)], args := [d1, d2] }
  | _ => none }
def BdotHoldsWrongFalsely : Prop := bdotHoldsRow.holds Try.pinned (OpenSpec.ofChange bdotHoldsWrong)

/-- 'alidadelaw06.MatRoot': WHATEVER THE INPUT: true; the input reads as it did. -/
def matRootSpec : ChangeSpec := { name := "matRoot", fn := fun _ => fun
  | [d1, d2, d3] => { results := [.lit (.bool true)], args := [d1, d2, d3] }
  | _ => none }
def matRootRow : OpenClaim := { program := "ytgccejhdohpojaa", sum := "16972efcf8ada3b3cdaba5b380d72e755cfcf93af2d8288588f2ab9f54f92da3", func := "alidade/alidadelaw06.MatRoot", spec := "matRoot", named := ["math/bits.divideError", "math/bits.overflowError"], apart := false }
def MatRootSaid : Prop := matRootRow.holds Try.pinned (OpenSpec.ofChange matRootSpec)

/-- ITS FALSE NEIGHBOUR: 'it returns false'. Refute it at one input. -/
def matRootWrong : ChangeSpec := { name := "matRoot", fn := fun _ => fun
  | [d1, d2, d3] => { results := [.lit (.bool false)], args := [d1, d2, d3] }
  | _ => none }
def MatRootWrongFalsely : Prop := matRootRow.holds Try.pinned (OpenSpec.ofChange matRootWrong)

/-- 'alidadelaw03.VecUnits': WHATEVER THE INPUT: true; the input reads as it did. -/
def vecUnitsSpec : ChangeSpec := { name := "vecUnits", fn := fun _ => fun
  | [d1, d2] => { results := [.lit (.bool true)], args := [d1, d2] }
  | _ => none }
def vecUnitsRow : OpenClaim := { program := "ytgccejhdohpojaa", sum := "16972efcf8ada3b3cdaba5b380d72e755cfcf93af2d8288588f2ab9f54f92da3", func := "alidade/alidadelaw03.VecUnits", spec := "vecUnits", inPlace := ["math/bits.Add64"], unfollowed := true, recurses := true, named := ["math/bits.divideError", "math/bits.overflowError"], apart := false }
def VecUnitsSaid : Prop := vecUnitsRow.holds Try.pinned (OpenSpec.ofChange vecUnitsSpec)

/-- ITS FALSE NEIGHBOUR: 'it returns false'. Refute it at one input. -/
def vecUnitsWrong : ChangeSpec := { name := "vecUnits", fn := fun _ => fun
  | [d1, d2] => { results := [.lit (.bool false)], args := [d1, d2] }
  | _ => none }
def VecUnitsWrongFalsely : Prop := vecUnitsRow.holds Try.pinned (OpenSpec.ofChange vecUnitsWrong)

/-- 'alidadelaw03.VecOne': WHATEVER THE INPUT: true; the input reads as it did. -/
def vecOneSpec : ChangeSpec := { name := "vecOne", fn := fun _ => fun
  | [d] => { results := [.lit (.bool true)], args := [d] }
  | _ => none }
def vecOneRow : OpenClaim := { program := "ytgccejhdohpojaa", sum := "16972efcf8ada3b3cdaba5b380d72e755cfcf93af2d8288588f2ab9f54f92da3", func := "alidade/alidadelaw03.VecOne", spec := "vecOne", inPlace := ["math/bits.Add64"], unfollowed := true, recurses := true, named := ["math/bits.divideError", "math/bits.overflowError"], apart := false }
def VecOneSaid : Prop := vecOneRow.holds Try.pinned (OpenSpec.ofChange vecOneSpec)

/-- ITS FALSE NEIGHBOUR: 'it returns false'. Refute it at one input. -/
def vecOneWrong : ChangeSpec := { name := "vecOne", fn := fun _ => fun
  | [d] => { results := [.lit (.bool false)], args := [d] }
  | _ => none }
def VecOneWrongFalsely : Prop := vecOneRow.holds Try.pinned (OpenSpec.ofChange vecOneWrong)

/-- 'alidadelaw03.VecUpright': WHATEVER THE INPUT: true; the input reads as it did. -/
def vecUprightSpec : ChangeSpec := { name := "vecUpright", fn := fun _ => fun
  | [d1, d2] => { results := [.lit (.bool true)], args := [d1, d2] }
  | _ => none }
def vecUprightRow : OpenClaim := { program := "ytgccejhdohpojaa", sum := "16972efcf8ada3b3cdaba5b380d72e755cfcf93af2d8288588f2ab9f54f92da3", func := "alidade/alidadelaw03.VecUpright", spec := "vecUpright", inPlace := ["math/bits.Add64"], unfollowed := true, recurses := true, named := ["math/bits.divideError", "math/bits.overflowError"], apart := false }
def VecUprightSaid : Prop := vecUprightRow.holds Try.pinned (OpenSpec.ofChange vecUprightSpec)

/-- ITS FALSE NEIGHBOUR: 'it returns false'. Refute it at one input. -/
def vecUprightWrong : ChangeSpec := { name := "vecUpright", fn := fun _ => fun
  | [d1, d2] => { results := [.lit (.bool false)], args := [d1, d2] }
  | _ => none }
def VecUprightWrongFalsely : Prop := vecUprightRow.holds Try.pinned (OpenSpec.ofChange vecUprightWrong)

/-- 'alidadelaw04.QuatUnit': WHATEVER THE INPUT: true; the input reads as it did. -/
def quatUnitSpec : ChangeSpec := { name := "quatUnit", fn := fun _ => fun
  | [d1, d2] => { results := [.lit (.bool true)], args := [d1, d2] }
  | _ => none }
def quatUnitRow : OpenClaim := { program := "ytgccejhdohpojaa", sum := "16972efcf8ada3b3cdaba5b380d72e755cfcf93af2d8288588f2ab9f54f92da3", func := "alidade/alidadelaw04.QuatUnit", spec := "quatUnit", inPlace := ["math/bits.Add64"], named := ["math/bits.divideError", "math/bits.overflowError"], apart := false }
def QuatUnitSaid : Prop := quatUnitRow.holds Try.pinned (OpenSpec.ofChange quatUnitSpec)

/-- ITS FALSE NEIGHBOUR: 'it returns false'. Refute it at one input. -/
def quatUnitWrong : ChangeSpec := { name := "quatUnit", fn := fun _ => fun
  | [d1, d2] => { results := [.lit (.bool false)], args := [d1, d2] }
  | _ => none }
def QuatUnitWrongFalsely : Prop := quatUnitRow.holds Try.pinned (OpenSpec.ofChange quatUnitWrong)

/-- 'alidadelaw03.VecParts': WHATEVER THE INPUT: true; the input reads as it did. -/
def vecPartsSpec : ChangeSpec := { name := "vecParts", fn := fun _ => fun
  | [d1, d2, d3] => { results := [.lit (.bool true)], args := [d1, d2, d3] }
  | _ => none }
def vecPartsRow : OpenClaim := { program := "ytgccejhdohpojaa", sum := "16972efcf8ada3b3cdaba5b380d72e755cfcf93af2d8288588f2ab9f54f92da3", func := "alidade/alidadelaw03.VecParts", spec := "vecParts", inPlace := ["math/bits.Add64"], unfollowed := true, recurses := true, named := ["math/bits.divideError", "math/bits.overflowError"], apart := false }
def VecPartsSaid : Prop := vecPartsRow.holds Try.pinned (OpenSpec.ofChange vecPartsSpec)

/-- ITS FALSE NEIGHBOUR: 'it returns false'. Refute it at one input. -/
def vecPartsWrong : ChangeSpec := { name := "vecParts", fn := fun _ => fun
  | [d1, d2, d3] => { results := [.lit (.bool false)], args := [d1, d2, d3] }
  | _ => none }
def VecPartsWrongFalsely : Prop := vecPartsRow.holds Try.pinned (OpenSpec.ofChange vecPartsWrong)

/-- 'alidadelaw06.MatSolve': WHATEVER THE INPUT: true; the input reads as it did. -/
def matSolveSpec : ChangeSpec := { name := "matSolve", fn := fun _ => fun
  | [d1, d2, d3] => { results := [.lit (.bool true)], args := [d1, d2, d3] }
  | _ => none }
def matSolveRow : OpenClaim := { program := "ytgccejhdohpojaa", sum := "16972efcf8ada3b3cdaba5b380d72e755cfcf93af2d8288588f2ab9f54f92da3", func := "alidade/alidadelaw06.MatSolve", spec := "matSolve", named := ["math/bits.divideError", "math/bits.overflowError"], apart := false }
def MatSolveSaid : Prop := matSolveRow.holds Try.pinned (OpenSpec.ofChange matSolveSpec)

/-- ITS FALSE NEIGHBOUR: 'it returns false'. Refute it at one input. -/
def matSolveWrong : ChangeSpec := { name := "matSolve", fn := fun _ => fun
  | [d1, d2, d3] => { results := [.lit (.bool false)], args := [d1, d2, d3] }
  | _ => none }
def MatSolveWrongFalsely : Prop := matSolveRow.holds Try.pinned (OpenSpec.ofChange matSolveWrong)

/-- 'alidadelaw06.MatBack': WHATEVER THE INPUT: true; the input reads as it did. -/
def matBackSpec : ChangeSpec := { name := "matBack", fn := fun _ => fun
  | [d1, d2] => { results := [.lit (.bool true)], args := [d1, d2] }
  | _ => none }
def matBackRow : OpenClaim := { program := "ytgccejhdohpojaa", sum := "16972efcf8ada3b3cdaba5b380d72e755cfcf93af2d8288588f2ab9f54f92da3", func := "alidade/alidadelaw06.MatBack", spec := "matBack", named := ["math/bits.divideError", "math/bits.overflowError"], apart := false }
def MatBackSaid : Prop := matBackRow.holds Try.pinned (OpenSpec.ofChange matBackSpec)

/-- ITS FALSE NEIGHBOUR: 'it returns false'. Refute it at one input. -/
def matBackWrong : ChangeSpec := { name := "matBack", fn := fun _ => fun
  | [d1, d2] => { results := [.lit (.bool false)], args := [d1, d2] }
  | _ => none }
def MatBackWrongFalsely : Prop := matBackRow.holds Try.pinned (OpenSpec.ofChange matBackWrong)

/-- 'alidadelaw04.QuatRod': WHATEVER THE INPUT: true; the input reads as it did. -/
def quatRodSpec : ChangeSpec := { name := "quatRod", fn := fun _ => fun
  | [d1, d2, d3] => { results := [.lit (.bool true)], args := [d1, d2, d3] }
  | _ => none }
def quatRodRow : OpenClaim := { program := "ytgccejhdohpojaa", sum := "16972efcf8ada3b3cdaba5b380d72e755cfcf93af2d8288588f2ab9f54f92da3", func := "alidade/alidadelaw04.QuatRod", spec := "quatRod", inPlace := ["math/bits.Add64"], named := ["math/bits.divideError", "math/bits.overflowError"], apart := false }
def QuatRodSaid : Prop := quatRodRow.holds Try.pinned (OpenSpec.ofChange quatRodSpec)

/-- ITS FALSE NEIGHBOUR: 'it returns false'. Refute it at one input. -/
def quatRodWrong : ChangeSpec := { name := "quatRod", fn := fun _ => fun
  | [d1, d2, d3] => { results := [.lit (.bool false)], args := [d1, d2, d3] }
  | _ => none }
def QuatRodWrongFalsely : Prop := quatRodRow.holds Try.pinned (OpenSpec.ofChange quatRodWrong)

/-- 'alidadelaw06.MatSums': WHATEVER THE INPUT: true; the input reads as it did. -/
def matSumsSpec : ChangeSpec := { name := "matSums", fn := fun _ => fun
  | [d1, d2, d3] => { results := [.lit (.bool true)], args := [d1, d2, d3] }
  | _ => none }
def matSumsRow : OpenClaim := { program := "ytgccejhdohpojaa", sum := "16972efcf8ada3b3cdaba5b380d72e755cfcf93af2d8288588f2ab9f54f92da3", func := "alidade/alidadelaw06.MatSums", spec := "matSums", named := ["math/bits.divideError", "math/bits.overflowError"], apart := false }
def MatSumsSaid : Prop := matSumsRow.holds Try.pinned (OpenSpec.ofChange matSumsSpec)

/-- ITS FALSE NEIGHBOUR: 'it returns false'. Refute it at one input. -/
def matSumsWrong : ChangeSpec := { name := "matSums", fn := fun _ => fun
  | [d1, d2, d3] => { results := [.lit (.bool false)], args := [d1, d2, d3] }
  | _ => none }
def MatSumsWrongFalsely : Prop := matSumsRow.holds Try.pinned (OpenSpec.ofChange matSumsWrong)

/-- 'alidadelaw06.MatSolved': WHATEVER THE INPUT: true; the input reads as it did. -/
def matSolvedSpec : ChangeSpec := { name := "matSolved", fn := fun _ => fun
  | [d1, d2, d3] => { results := [.lit (.bool true)], args := [d1, d2, d3] }
  | _ => none }
def matSolvedRow : OpenClaim := { program := "ytgccejhdohpojaa", sum := "16972efcf8ada3b3cdaba5b380d72e755cfcf93af2d8288588f2ab9f54f92da3", func := "alidade/alidadelaw06.MatSolved", spec := "matSolved", named := ["math/bits.divideError", "math/bits.overflowError"], apart := false }
def MatSolvedSaid : Prop := matSolvedRow.holds Try.pinned (OpenSpec.ofChange matSolvedSpec)

/-- ITS FALSE NEIGHBOUR: 'it returns false'. Refute it at one input. -/
def matSolvedWrong : ChangeSpec := { name := "matSolved", fn := fun _ => fun
  | [d1, d2, d3] => { results := [.lit (.bool false)], args := [d1, d2, d3] }
  | _ => none }
def MatSolvedWrongFalsely : Prop := matSolvedRow.holds Try.pinned (OpenSpec.ofChange matSolvedWrong)

/-- 'alidadelaw04.QuatTurn': WHATEVER THE INPUT: true; the input reads as it did. -/
def quatTurnSpec : ChangeSpec := { name := "quatTurn", fn := fun _ => fun
  | [d1, d2, d3] => { results := [.lit (.bool true)], args := [d1, d2, d3] }
  | _ => none }
def quatTurnRow : OpenClaim := { program := "ytgccejhdohpojaa", sum := "16972efcf8ada3b3cdaba5b380d72e755cfcf93af2d8288588f2ab9f54f92da3", func := "alidade/alidadelaw04.QuatTurn", spec := "quatTurn", inPlace := ["math/bits.Add64"], unfollowed := true, recurses := true, named := ["math/bits.divideError", "math/bits.overflowError"], apart := false }
def QuatTurnSaid : Prop := quatTurnRow.holds Try.pinned (OpenSpec.ofChange quatTurnSpec)

/-- ITS FALSE NEIGHBOUR: 'it returns false'. Refute it at one input. -/
def quatTurnWrong : ChangeSpec := { name := "quatTurn", fn := fun _ => fun
  | [d1, d2, d3] => { results := [.lit (.bool false)], args := [d1, d2, d3] }
  | _ => none }
def QuatTurnWrongFalsely : Prop := quatTurnRow.holds Try.pinned (OpenSpec.ofChange quatTurnWrong)

/-- 'alidadelaw04.QuatKeeps': WHATEVER THE INPUT: true; the input reads as it did. -/
def quatKeepsSpec : ChangeSpec := { name := "quatKeeps", fn := fun _ => fun
  | [d1, d2] => { results := [.lit (.bool true)], args := [d1, d2] }
  | _ => none }
def quatKeepsRow : OpenClaim := { program := "ytgccejhdohpojaa", sum := "16972efcf8ada3b3cdaba5b380d72e755cfcf93af2d8288588f2ab9f54f92da3", func := "alidade/alidadelaw04.QuatKeeps", spec := "quatKeeps", inPlace := ["math/bits.Add64"], unfollowed := true, recurses := true, named := ["math/bits.divideError", "math/bits.overflowError"], apart := false }
def QuatKeepsSaid : Prop := quatKeepsRow.holds Try.pinned (OpenSpec.ofChange quatKeepsSpec)

/-- ITS FALSE NEIGHBOUR: 'it returns false'. Refute it at one input. -/
def quatKeepsWrong : ChangeSpec := { name := "quatKeeps", fn := fun _ => fun
  | [d1, d2] => { results := [.lit (.bool false)], args := [d1, d2] }
  | _ => none }
def QuatKeepsWrongFalsely : Prop := quatKeepsRow.holds Try.pinned (OpenSpec.ofChange quatKeepsWrong)

/-- 'alidadelaw04.QuatMul': WHATEVER THE INPUT: true; the input reads as it did. -/
def quatMulSpec : ChangeSpec := { name := "quatMul", fn := fun _ => fun
  | [d1, d2, d3] => { results := [.lit (.bool true)], args := [d1, d2, d3] }
  | _ => none }
def quatMulRow : OpenClaim := { program := "ytgccejhdohpojaa", sum := "16972efcf8ada3b3cdaba5b380d72e755cfcf93af2d8288588f2ab9f54f92da3", func := "alidade/alidadelaw04.QuatMul", spec := "quatMul", inPlace := ["math/bits.Add64"], unfollowed := true, recurses := true, named := ["math/bits.divideError", "math/bits.overflowError"], apart := false }
def QuatMulSaid : Prop := quatMulRow.holds Try.pinned (OpenSpec.ofChange quatMulSpec)

/-- ITS FALSE NEIGHBOUR: 'it returns false'. Refute it at one input. -/
def quatMulWrong : ChangeSpec := { name := "quatMul", fn := fun _ => fun
  | [d1, d2, d3] => { results := [.lit (.bool false)], args := [d1, d2, d3] }
  | _ => none }
def QuatMulWrongFalsely : Prop := quatMulRow.holds Try.pinned (OpenSpec.ofChange quatMulWrong)

/-- 'alidadelaw04.QuatAfter': WHATEVER THE INPUT: true; the input reads as it did. -/
def quatAfterSpec : ChangeSpec := { name := "quatAfter", fn := fun _ => fun
  | [d1, d2, d3] => { results := [.lit (.bool true)], args := [d1, d2, d3] }
  | _ => none }
def quatAfterRow : OpenClaim := { program := "ytgccejhdohpojaa", sum := "16972efcf8ada3b3cdaba5b380d72e755cfcf93af2d8288588f2ab9f54f92da3", func := "alidade/alidadelaw04.QuatAfter", spec := "quatAfter", inPlace := ["math/bits.Add64"], unfollowed := true, recurses := true, named := ["math/bits.divideError", "math/bits.overflowError"], apart := false }
def QuatAfterSaid : Prop := quatAfterRow.holds Try.pinned (OpenSpec.ofChange quatAfterSpec)

/-- ITS FALSE NEIGHBOUR: 'it returns false'. Refute it at one input. -/
def quatAfterWrong : ChangeSpec := { name := "quatAfter", fn := fun _ => fun
  | [d1, d2, d3] => { results := [.lit (.bool false)], args := [d1, d2, d3] }
  | _ => none }
def QuatAfterWrongFalsely : Prop := quatAfterRow.holds Try.pinned (OpenSpec.ofChange quatAfterWrong)

/-- 'alidadelaw05.TriadApart': WHATEVER THE INPUT: true; the input reads as it did. -/
def triadApartSpec : ChangeSpec := { name := "triadApart", fn := fun _ => fun
  | [d1, d2, d3] => { results := [.lit (.bool true)], args := [d1, d2, d3] }
  | _ => none }
def triadApartRow : OpenClaim := { program := "ytgccejhdohpojaa", sum := "16972efcf8ada3b3cdaba5b380d72e755cfcf93af2d8288588f2ab9f54f92da3", func := "alidade/alidadelaw05.TriadApart", spec := "triadApart", inPlace := ["math/bits.Add64"], unfollowed := true, recurses := true, named := ["math/bits.divideError", "math/bits.overflowError"], apart := false }
def TriadApartSaid : Prop := triadApartRow.holds Try.pinned (OpenSpec.ofChange triadApartSpec)

/-- ITS FALSE NEIGHBOUR: 'it returns false'. Refute it at one input. -/
def triadApartWrong : ChangeSpec := { name := "triadApart", fn := fun _ => fun
  | [d1, d2, d3] => { results := [.lit (.bool false)], args := [d1, d2, d3] }
  | _ => none }
def TriadApartWrongFalsely : Prop := triadApartRow.holds Try.pinned (OpenSpec.ofChange triadApartWrong)

/-- 'alidadelaw05.TriadAttitude': WHATEVER THE INPUT: true; the input reads as it did. -/
def triadAttitudeSpec : ChangeSpec := { name := "triadAttitude", fn := fun _ => fun
  | [d1, d2, d3] => { results := [.lit (.bool true)], args := [d1, d2, d3] }
  | _ => none }
def triadAttitudeRow : OpenClaim := { program := "ytgccejhdohpojaa", sum := "16972efcf8ada3b3cdaba5b380d72e755cfcf93af2d8288588f2ab9f54f92da3", func := "alidade/alidadelaw05.TriadAttitude", spec := "triadAttitude", inPlace := ["math/bits.Add64"], unfollowed := true, recurses := true, named := ["math/bits.divideError", "math/bits.overflowError"], apart := false }
def TriadAttitudeSaid : Prop := triadAttitudeRow.holds Try.pinned (OpenSpec.ofChange triadAttitudeSpec)

/-- ITS FALSE NEIGHBOUR: 'it returns false'. Refute it at one input. -/
def triadAttitudeWrong : ChangeSpec := { name := "triadAttitude", fn := fun _ => fun
  | [d1, d2, d3] => { results := [.lit (.bool false)], args := [d1, d2, d3] }
  | _ => none }
def TriadAttitudeWrongFalsely : Prop := triadAttitudeRow.holds Try.pinned (OpenSpec.ofChange triadAttitudeWrong)

/-- 'alidadelaw04.QuatThere': WHATEVER THE INPUT: true; the input reads as it did. -/
def quatThereSpec : ChangeSpec := { name := "quatThere", fn := fun _ => fun
  | [d1, d2] => { results := [.lit (.bool true)], args := [d1, d2] }
  | _ => none }
def quatThereRow : OpenClaim := { program := "ytgccejhdohpojaa", sum := "16972efcf8ada3b3cdaba5b380d72e755cfcf93af2d8288588f2ab9f54f92da3", func := "alidade/alidadelaw04.QuatThere", spec := "quatThere", inPlace := ["math/bits.Add64"], unfollowed := true, recurses := true, named := ["math/bits.divideError", "math/bits.overflowError"], apart := false }
def QuatThereSaid : Prop := quatThereRow.holds Try.pinned (OpenSpec.ofChange quatThereSpec)

/-- ITS FALSE NEIGHBOUR: 'it returns false'. Refute it at one input. -/
def quatThereWrong : ChangeSpec := { name := "quatThere", fn := fun _ => fun
  | [d1, d2] => { results := [.lit (.bool false)], args := [d1, d2] }
  | _ => none }
def QuatThereWrongFalsely : Prop := quatThereRow.holds Try.pinned (OpenSpec.ofChange quatThereWrong)

/-- 'alidadelaw05.TriadFirst': WHATEVER THE INPUT: true; the input reads as it did. -/
def triadFirstSpec : ChangeSpec := { name := "triadFirst", fn := fun _ => fun
  | [d1, d2] => { results := [.lit (.bool true)], args := [d1, d2] }
  | _ => none }
def triadFirstRow : OpenClaim := { program := "ytgccejhdohpojaa", sum := "16972efcf8ada3b3cdaba5b380d72e755cfcf93af2d8288588f2ab9f54f92da3", func := "alidade/alidadelaw05.TriadFirst", spec := "triadFirst", inPlace := ["math/bits.Add64"], unfollowed := true, recurses := true, named := ["math/bits.divideError", "math/bits.overflowError"], apart := false }
def TriadFirstSaid : Prop := triadFirstRow.holds Try.pinned (OpenSpec.ofChange triadFirstSpec)

/-- ITS FALSE NEIGHBOUR: 'it returns false'. Refute it at one input. -/
def triadFirstWrong : ChangeSpec := { name := "triadFirst", fn := fun _ => fun
  | [d1, d2] => { results := [.lit (.bool false)], args := [d1, d2] }
  | _ => none }
def TriadFirstWrongFalsely : Prop := triadFirstRow.holds Try.pinned (OpenSpec.ofChange triadFirstWrong)

/-- 'alidadelaw05.TriadBoth': WHATEVER THE INPUT: true; the input reads as it did. -/
def triadBothSpec : ChangeSpec := { name := "triadBoth", fn := fun _ => fun
  | [d1, d2] => { results := [.lit (.bool true)], args := [d1, d2] }
  | _ => none }
def triadBothRow : OpenClaim := { program := "ytgccejhdohpojaa", sum := "16972efcf8ada3b3cdaba5b380d72e755cfcf93af2d8288588f2ab9f54f92da3", func := "alidade/alidadelaw05.TriadBoth", spec := "triadBoth", inPlace := ["math/bits.Add64"], unfollowed := true, recurses := true, named := ["math/bits.divideError", "math/bits.overflowError"], apart := false }
def TriadBothSaid : Prop := triadBothRow.holds Try.pinned (OpenSpec.ofChange triadBothSpec)

/-- ITS FALSE NEIGHBOUR: 'it returns false'. Refute it at one input. -/
def triadBothWrong : ChangeSpec := { name := "triadBoth", fn := fun _ => fun
  | [d1, d2] => { results := [.lit (.bool false)], args := [d1, d2] }
  | _ => none }
def TriadBothWrongFalsely : Prop := triadBothRow.holds Try.pinned (OpenSpec.ofChange triadBothWrong)

/-- 'alidadelaw14.FilterPoints': WHATEVER THE INPUT: true; the input reads as it did. -/
def filterPointsSpec : ChangeSpec := { name := "filterPoints", fn := fun _ => fun
  | [d1, d2] => { results := [.lit (.bool true)], args := [d1, d2] }
  | _ => none }
def filterPointsRow : OpenClaim := { program := "ytgccejhdohpojaa", sum := "16972efcf8ada3b3cdaba5b380d72e755cfcf93af2d8288588f2ab9f54f92da3", func := "alidade/alidadelaw14.FilterPoints", spec := "filterPoints", inPlace := ["math/bits.Add64"], unfollowed := true, recurses := true, named := ["math/bits.divideError", "math/bits.overflowError"], apart := false }
def FilterPointsSaid : Prop := filterPointsRow.holds Try.pinned (OpenSpec.ofChange filterPointsSpec)

/-- ITS FALSE NEIGHBOUR: 'it returns false'. Refute it at one input. -/
def filterPointsWrong : ChangeSpec := { name := "filterPoints", fn := fun _ => fun
  | [d1, d2] => { results := [.lit (.bool false)], args := [d1, d2] }
  | _ => none }
def FilterPointsWrongFalsely : Prop := filterPointsRow.holds Try.pinned (OpenSpec.ofChange filterPointsWrong)

/-- 'alidadelaw14.FilterMoves': WHATEVER THE INPUT: true; the input reads as it did. -/
def filterMovesSpec : ChangeSpec := { name := "filterMoves", fn := fun _ => fun
  | [d1, d2, d3] => { results := [.lit (.bool true)], args := [d1, d2, d3] }
  | _ => none }
def filterMovesRow : OpenClaim := { program := "ytgccejhdohpojaa", sum := "16972efcf8ada3b3cdaba5b380d72e755cfcf93af2d8288588f2ab9f54f92da3", func := "alidade/alidadelaw14.FilterMoves", spec := "filterMoves", inPlace := ["math/bits.Add64"], unfollowed := true, recurses := true, named := ["math/bits.divideError", "math/bits.overflowError"], apart := false }
def FilterMovesSaid : Prop := filterMovesRow.holds Try.pinned (OpenSpec.ofChange filterMovesSpec)

/-- ITS FALSE NEIGHBOUR: 'it returns false'. Refute it at one input. -/
def filterMovesWrong : ChangeSpec := { name := "filterMoves", fn := fun _ => fun
  | [d1, d2, d3] => { results := [.lit (.bool false)], args := [d1, d2, d3] }
  | _ => none }
def FilterMovesWrongFalsely : Prop := filterMovesRow.holds Try.pinned (OpenSpec.ofChange filterMovesWrong)

/-- 'alidadelaw14.FilterEven': WHATEVER THE INPUT: true; the input reads as it did. -/
def filterEvenSpec : ChangeSpec := { name := "filterEven", fn := fun _ => fun
  | [d1, d2, d3] => { results := [.lit (.bool true)], args := [d1, d2, d3] }
  | _ => none }
def filterEvenRow : OpenClaim := { program := "ytgccejhdohpojaa", sum := "16972efcf8ada3b3cdaba5b380d72e755cfcf93af2d8288588f2ab9f54f92da3", func := "alidade/alidadelaw14.FilterEven", spec := "filterEven", inPlace := ["math/bits.Add64"], unfollowed := true, recurses := true, named := ["math/bits.divideError", "math/bits.overflowError"], apart := false }
def FilterEvenSaid : Prop := filterEvenRow.holds Try.pinned (OpenSpec.ofChange filterEvenSpec)

/-- ITS FALSE NEIGHBOUR: 'it returns false'. Refute it at one input. -/
def filterEvenWrong : ChangeSpec := { name := "filterEven", fn := fun _ => fun
  | [d1, d2, d3] => { results := [.lit (.bool false)], args := [d1, d2, d3] }
  | _ => none }
def FilterEvenWrongFalsely : Prop := filterEvenRow.holds Try.pinned (OpenSpec.ofChange filterEvenWrong)

/-- 'alidadelaw14.FilterFinds': WHATEVER THE INPUT: true; the input reads as it did. -/
def filterFindsSpec : ChangeSpec := { name := "filterFinds", fn := fun _ => fun
  | [d1, d2] => { results := [.lit (.bool true)], args := [d1, d2] }
  | _ => none }
def filterFindsRow : OpenClaim := { program := "ytgccejhdohpojaa", sum := "16972efcf8ada3b3cdaba5b380d72e755cfcf93af2d8288588f2ab9f54f92da3", func := "alidade/alidadelaw14.FilterFinds", spec := "filterFinds", inPlace := ["math/bits.Add64"], unfollowed := true, recurses := true, named := ["math/bits.divideError", "math/bits.overflowError"], apart := false }
def FilterFindsSaid : Prop := filterFindsRow.holds Try.pinned (OpenSpec.ofChange filterFindsSpec)

/-- ITS FALSE NEIGHBOUR: 'it returns false'. Refute it at one input. -/
def filterFindsWrong : ChangeSpec := { name := "filterFinds", fn := fun _ => fun
  | [d1, d2] => { results := [.lit (.bool false)], args := [d1, d2] }
  | _ => none }
def FilterFindsWrongFalsely : Prop := filterFindsRow.holds Try.pinned (OpenSpec.ofChange filterFindsWrong)

/- THE SECOND FORM. 'bulk': how many values and letters a reading holds, each counted each time it is reached (what is shared counts as often as it is met; a slice's spare places count too). A statement '..UptoSaid' is the law's where the arguments, and the package variables that the reading takes, are together of bulk at most 1048576: NARROWER than '..Said'. Prove '..Said' where nothing that the law and all that it calls make is longer than what came in: it says more and counts as full. Else prove '..UptoSaid'. A law counts once. -/
mutual
def uptoBulk {H : Type} : DataW H → Nat
  | .lit (.string bytes) => bytes.length + 1
  | .lit _ => 1
  | .nil => 1
  | .ptr d => uptoBulk d + 1
  | .slice elems spare => uptoBulkAll elems + uptoBulkAll spare + 1
  | .agg parts => uptoBulkAll parts + 1
  | .iface _ d => uptoBulk d + 1
  | .map entries => uptoBulkEntries entries + 1
  | .held _ => 1
def uptoBulkAll {H : Type} : List (DataW H) → Nat
  | [] => 0
  | d :: r => uptoBulk d + uptoBulkAll r
def uptoBulkEntries {H : Type} : List (Lit × DataW H) → Nat
  | [] => 0
  | x :: r => uptoBulkEntry x + uptoBulkEntries r
def uptoBulkEntry {H : Type} : Lit × DataW H → Nat
  | (.string bytes, d) => bytes.length + uptoBulk d + 1
  | (_, d) => uptoBulk d + 1
 end
def uptoSmall : (H : Type) → List (DataW H) → Bool := fun _ ds => decide (uptoBulkAll ds ≤ 1048576)
def OpenSpec.upto (s : _root_.Go.ChangeSpec) : _root_.Go.OpenSpec := { _root_.Go.OpenSpec.ofChange s with cond := some uptoSmall }

/-- 'alidadelaw07.ClockDays', WHERE WHAT IT READS IS OF BULK AT MOST 1048576: true; the input reads as it did. -/
def clockDaysUptoRow : OpenClaim := { program := "ytgccejhdohpojaa", sum := "16972efcf8ada3b3cdaba5b380d72e755cfcf93af2d8288588f2ab9f54f92da3", func := "alidade/alidadelaw07.ClockDays", spec := "clockDays", named := ["math/bits.divideError", "math/bits.overflowError"], apart := false, narrowed := true }
def ClockDaysUptoSaid : Prop := clockDaysUptoRow.holds Try.pinned (OpenSpec.upto clockDaysSpec)

/-- 'alidadelaw03.VecScale', WHERE WHAT IT READS IS OF BULK AT MOST 1048576: true; the input reads as it did. -/
def vecScaleUptoRow : OpenClaim := { program := "ytgccejhdohpojaa", sum := "16972efcf8ada3b3cdaba5b380d72e755cfcf93af2d8288588f2ab9f54f92da3", func := "alidade/alidadelaw03.VecScale", spec := "vecScale", unfollowed := true, recurses := true, named := ["math/bits.divideError", "math/bits.overflowError"], apart := false, narrowed := true }
def VecScaleUptoSaid : Prop := vecScaleUptoRow.holds Try.pinned (OpenSpec.upto vecScaleSpec)

/-- 'alidadelaw03.VecProducts', WHERE WHAT IT READS IS OF BULK AT MOST 1048576: true; the input reads as it did. -/
def vecProductsUptoRow : OpenClaim := { program := "ytgccejhdohpojaa", sum := "16972efcf8ada3b3cdaba5b380d72e755cfcf93af2d8288588f2ab9f54f92da3", func := "alidade/alidadelaw03.VecProducts", spec := "vecProducts", unfollowed := true, recurses := true, named := ["math/bits.divideError", "math/bits.overflowError"], apart := false, narrowed := true }
def VecProductsUptoSaid : Prop := vecProductsUptoRow.holds Try.pinned (OpenSpec.upto vecProductsSpec)

/-- 'alidadelaw03.VecSums', WHERE WHAT IT READS IS OF BULK AT MOST 1048576: true; the input reads as it did. -/
def vecSumsUptoRow : OpenClaim := { program := "ytgccejhdohpojaa", sum := "16972efcf8ada3b3cdaba5b380d72e755cfcf93af2d8288588f2ab9f54f92da3", func := "alidade/alidadelaw03.VecSums", spec := "vecSums", unfollowed := true, recurses := true, named := ["math/bits.divideError", "math/bits.overflowError"], apart := false, narrowed := true }
def VecSumsUptoSaid : Prop := vecSumsUptoRow.holds Try.pinned (OpenSpec.upto vecSumsSpec)

/-- 'alidadelaw07.ClockTurns', WHERE WHAT IT READS IS OF BULK AT MOST 1048576: true; the input reads as it did. -/
def clockTurnsUptoRow : OpenClaim := { program := "ytgccejhdohpojaa", sum := "16972efcf8ada3b3cdaba5b380d72e755cfcf93af2d8288588f2ab9f54f92da3", func := "alidade/alidadelaw07.ClockTurns", spec := "clockTurns", named := ["math/bits.divideError", "math/bits.overflowError"], apart := false, narrowed := true }
def ClockTurnsUptoSaid : Prop := clockTurnsUptoRow.holds Try.pinned (OpenSpec.upto clockTurnsSpec)

/-- 'alidadelaw07.ClockDaily', WHERE WHAT IT READS IS OF BULK AT MOST 1048576: true; the input reads as it did. -/
def clockDailyUptoRow : OpenClaim := { program := "ytgccejhdohpojaa", sum := "16972efcf8ada3b3cdaba5b380d72e755cfcf93af2d8288588f2ab9f54f92da3", func := "alidade/alidadelaw07.ClockDaily", spec := "clockDaily", named := ["math/bits.divideError", "math/bits.overflowError"], apart := false, narrowed := true }
def ClockDailyUptoSaid : Prop := clockDailyUptoRow.holds Try.pinned (OpenSpec.upto clockDailySpec)

/-- 'alidadelaw13.BdotSteps', WHERE WHAT IT READS IS OF BULK AT MOST 1048576: true; the input reads as it did. -/
def bdotStepsUptoRow : OpenClaim := { program := "ytgccejhdohpojaa", sum := "16972efcf8ada3b3cdaba5b380d72e755cfcf93af2d8288588f2ab9f54f92da3", func := "alidade/alidadelaw13.BdotSteps", spec := "bdotSteps", unfollowed := true, recurses := true, named := ["math/bits.divideError", "math/bits.overflowError"], apart := false, narrowed := true }
def BdotStepsUptoSaid : Prop := bdotStepsUptoRow.holds Try.pinned (OpenSpec.upto bdotStepsSpec)

/-- 'alidadelaw13.BdotDipole', WHERE WHAT IT READS IS OF BULK AT MOST 1048576: true; the input reads as it did. -/
def bdotDipoleUptoRow : OpenClaim := { program := "ytgccejhdohpojaa", sum := "16972efcf8ada3b3cdaba5b380d72e755cfcf93af2d8288588f2ab9f54f92da3", func := "alidade/alidadelaw13.BdotDipole", spec := "bdotDipole", unfollowed := true, recurses := true, named := ["math/bits.divideError", "math/bits.overflowError"], apart := false, narrowed := true }
def BdotDipoleUptoSaid : Prop := bdotDipoleUptoRow.holds Try.pinned (OpenSpec.upto bdotDipoleSpec)

/-- 'alidadelaw13.BdotAgainst', WHERE WHAT IT READS IS OF BULK AT MOST 1048576: true; the input reads as it did. -/
def bdotAgainstUptoRow : OpenClaim := { program := "ytgccejhdohpojaa", sum := "16972efcf8ada3b3cdaba5b380d72e755cfcf93af2d8288588f2ab9f54f92da3", func := "alidade/alidadelaw13.BdotAgainst", spec := "bdotAgainst", unfollowed := true, recurses := true, named := ["math/bits.divideError", "math/bits.overflowError"], apart := false, narrowed := true }
def BdotAgainstUptoSaid : Prop := bdotAgainstUptoRow.holds Try.pinned (OpenSpec.upto bdotAgainstSpec)

/-- 'alidadelaw13.BdotHolds', WHERE WHAT IT READS IS OF BULK AT MOST 1048576: true; the input reads as it did. -/
def bdotHoldsUptoRow : OpenClaim := { program := "ytgccejhdohpojaa", sum := "16972efcf8ada3b3cdaba5b380d72e755cfcf93af2d8288588f2ab9f54f92da3", func := "alidade/alidadelaw13.BdotHolds", spec := "bdotHolds", unfollowed := true, recurses := true, named := ["math/bits.divideError", "math/bits.overflowError"], apart := false, narrowed := true }
def BdotHoldsUptoSaid : Prop := bdotHoldsUptoRow.holds Try.pinned (OpenSpec.upto bdotHoldsSpec)

/-- 'alidadelaw06.MatRoot', WHERE WHAT IT READS IS OF BULK AT MOST 1048576: true; the input reads as it did. -/
def matRootUptoRow : OpenClaim := { program := "ytgccejhdohpojaa", sum := "16972efcf8ada3b3cdaba5b380d72e755cfcf93af2d8288588f2ab9f54f92da3", func := "alidade/alidadelaw06.MatRoot", spec := "matRoot", named := ["math/bits.divideError", "math/bits.overflowError"], apart := false, narrowed := true }
def MatRootUptoSaid : Prop := matRootUptoRow.holds Try.pinned (OpenSpec.upto matRootSpec)

/-- 'alidadelaw03.VecUnits', WHERE WHAT IT READS IS OF BULK AT MOST 1048576: true; the input reads as it did. -/
def vecUnitsUptoRow : OpenClaim := { program := "ytgccejhdohpojaa", sum := "16972efcf8ada3b3cdaba5b380d72e755cfcf93af2d8288588f2ab9f54f92da3", func := "alidade/alidadelaw03.VecUnits", spec := "vecUnits", inPlace := ["math/bits.Add64"], unfollowed := true, recurses := true, named := ["math/bits.divideError", "math/bits.overflowError"], apart := false, narrowed := true }
def VecUnitsUptoSaid : Prop := vecUnitsUptoRow.holds Try.pinned (OpenSpec.upto vecUnitsSpec)

/-- 'alidadelaw03.VecOne', WHERE WHAT IT READS IS OF BULK AT MOST 1048576: true; the input reads as it did. -/
def vecOneUptoRow : OpenClaim := { program := "ytgccejhdohpojaa", sum := "16972efcf8ada3b3cdaba5b380d72e755cfcf93af2d8288588f2ab9f54f92da3", func := "alidade/alidadelaw03.VecOne", spec := "vecOne", inPlace := ["math/bits.Add64"], unfollowed := true, recurses := true, named := ["math/bits.divideError", "math/bits.overflowError"], apart := false, narrowed := true }
def VecOneUptoSaid : Prop := vecOneUptoRow.holds Try.pinned (OpenSpec.upto vecOneSpec)

/-- 'alidadelaw03.VecUpright', WHERE WHAT IT READS IS OF BULK AT MOST 1048576: true; the input reads as it did. -/
def vecUprightUptoRow : OpenClaim := { program := "ytgccejhdohpojaa", sum := "16972efcf8ada3b3cdaba5b380d72e755cfcf93af2d8288588f2ab9f54f92da3", func := "alidade/alidadelaw03.VecUpright", spec := "vecUpright", inPlace := ["math/bits.Add64"], unfollowed := true, recurses := true, named := ["math/bits.divideError", "math/bits.overflowError"], apart := false, narrowed := true }
def VecUprightUptoSaid : Prop := vecUprightUptoRow.holds Try.pinned (OpenSpec.upto vecUprightSpec)

/-- 'alidadelaw04.QuatUnit', WHERE WHAT IT READS IS OF BULK AT MOST 1048576: true; the input reads as it did. -/
def quatUnitUptoRow : OpenClaim := { program := "ytgccejhdohpojaa", sum := "16972efcf8ada3b3cdaba5b380d72e755cfcf93af2d8288588f2ab9f54f92da3", func := "alidade/alidadelaw04.QuatUnit", spec := "quatUnit", inPlace := ["math/bits.Add64"], named := ["math/bits.divideError", "math/bits.overflowError"], apart := false, narrowed := true }
def QuatUnitUptoSaid : Prop := quatUnitUptoRow.holds Try.pinned (OpenSpec.upto quatUnitSpec)

/-- 'alidadelaw03.VecParts', WHERE WHAT IT READS IS OF BULK AT MOST 1048576: true; the input reads as it did. -/
def vecPartsUptoRow : OpenClaim := { program := "ytgccejhdohpojaa", sum := "16972efcf8ada3b3cdaba5b380d72e755cfcf93af2d8288588f2ab9f54f92da3", func := "alidade/alidadelaw03.VecParts", spec := "vecParts", inPlace := ["math/bits.Add64"], unfollowed := true, recurses := true, named := ["math/bits.divideError", "math/bits.overflowError"], apart := false, narrowed := true }
def VecPartsUptoSaid : Prop := vecPartsUptoRow.holds Try.pinned (OpenSpec.upto vecPartsSpec)

/-- 'alidadelaw06.MatSolve', WHERE WHAT IT READS IS OF BULK AT MOST 1048576: true; the input reads as it did. -/
def matSolveUptoRow : OpenClaim := { program := "ytgccejhdohpojaa", sum := "16972efcf8ada3b3cdaba5b380d72e755cfcf93af2d8288588f2ab9f54f92da3", func := "alidade/alidadelaw06.MatSolve", spec := "matSolve", named := ["math/bits.divideError", "math/bits.overflowError"], apart := false, narrowed := true }
def MatSolveUptoSaid : Prop := matSolveUptoRow.holds Try.pinned (OpenSpec.upto matSolveSpec)

/-- 'alidadelaw06.MatBack', WHERE WHAT IT READS IS OF BULK AT MOST 1048576: true; the input reads as it did. -/
def matBackUptoRow : OpenClaim := { program := "ytgccejhdohpojaa", sum := "16972efcf8ada3b3cdaba5b380d72e755cfcf93af2d8288588f2ab9f54f92da3", func := "alidade/alidadelaw06.MatBack", spec := "matBack", named := ["math/bits.divideError", "math/bits.overflowError"], apart := false, narrowed := true }
def MatBackUptoSaid : Prop := matBackUptoRow.holds Try.pinned (OpenSpec.upto matBackSpec)

/-- 'alidadelaw04.QuatRod', WHERE WHAT IT READS IS OF BULK AT MOST 1048576: true; the input reads as it did. -/
def quatRodUptoRow : OpenClaim := { program := "ytgccejhdohpojaa", sum := "16972efcf8ada3b3cdaba5b380d72e755cfcf93af2d8288588f2ab9f54f92da3", func := "alidade/alidadelaw04.QuatRod", spec := "quatRod", inPlace := ["math/bits.Add64"], named := ["math/bits.divideError", "math/bits.overflowError"], apart := false, narrowed := true }
def QuatRodUptoSaid : Prop := quatRodUptoRow.holds Try.pinned (OpenSpec.upto quatRodSpec)

/-- 'alidadelaw06.MatSums', WHERE WHAT IT READS IS OF BULK AT MOST 1048576: true; the input reads as it did. -/
def matSumsUptoRow : OpenClaim := { program := "ytgccejhdohpojaa", sum := "16972efcf8ada3b3cdaba5b380d72e755cfcf93af2d8288588f2ab9f54f92da3", func := "alidade/alidadelaw06.MatSums", spec := "matSums", named := ["math/bits.divideError", "math/bits.overflowError"], apart := false, narrowed := true }
def MatSumsUptoSaid : Prop := matSumsUptoRow.holds Try.pinned (OpenSpec.upto matSumsSpec)

/-- 'alidadelaw06.MatSolved', WHERE WHAT IT READS IS OF BULK AT MOST 1048576: true; the input reads as it did. -/
def matSolvedUptoRow : OpenClaim := { program := "ytgccejhdohpojaa", sum := "16972efcf8ada3b3cdaba5b380d72e755cfcf93af2d8288588f2ab9f54f92da3", func := "alidade/alidadelaw06.MatSolved", spec := "matSolved", named := ["math/bits.divideError", "math/bits.overflowError"], apart := false, narrowed := true }
def MatSolvedUptoSaid : Prop := matSolvedUptoRow.holds Try.pinned (OpenSpec.upto matSolvedSpec)

/-- 'alidadelaw04.QuatTurn', WHERE WHAT IT READS IS OF BULK AT MOST 1048576: true; the input reads as it did. -/
def quatTurnUptoRow : OpenClaim := { program := "ytgccejhdohpojaa", sum := "16972efcf8ada3b3cdaba5b380d72e755cfcf93af2d8288588f2ab9f54f92da3", func := "alidade/alidadelaw04.QuatTurn", spec := "quatTurn", inPlace := ["math/bits.Add64"], unfollowed := true, recurses := true, named := ["math/bits.divideError", "math/bits.overflowError"], apart := false, narrowed := true }
def QuatTurnUptoSaid : Prop := quatTurnUptoRow.holds Try.pinned (OpenSpec.upto quatTurnSpec)

/-- 'alidadelaw04.QuatKeeps', WHERE WHAT IT READS IS OF BULK AT MOST 1048576: true; the input reads as it did. -/
def quatKeepsUptoRow : OpenClaim := { program := "ytgccejhdohpojaa", sum := "16972efcf8ada3b3cdaba5b380d72e755cfcf93af2d8288588f2ab9f54f92da3", func := "alidade/alidadelaw04.QuatKeeps", spec := "quatKeeps", inPlace := ["math/bits.Add64"], unfollowed := true, recurses := true, named := ["math/bits.divideError", "math/bits.overflowError"], apart := false, narrowed := true }
def QuatKeepsUptoSaid : Prop := quatKeepsUptoRow.holds Try.pinned (OpenSpec.upto quatKeepsSpec)

/-- 'alidadelaw04.QuatMul', WHERE WHAT IT READS IS OF BULK AT MOST 1048576: true; the input reads as it did. -/
def quatMulUptoRow : OpenClaim := { program := "ytgccejhdohpojaa", sum := "16972efcf8ada3b3cdaba5b380d72e755cfcf93af2d8288588f2ab9f54f92da3", func := "alidade/alidadelaw04.QuatMul", spec := "quatMul", inPlace := ["math/bits.Add64"], unfollowed := true, recurses := true, named := ["math/bits.divideError", "math/bits.overflowError"], apart := false, narrowed := true }
def QuatMulUptoSaid : Prop := quatMulUptoRow.holds Try.pinned (OpenSpec.upto quatMulSpec)

/-- 'alidadelaw04.QuatAfter', WHERE WHAT IT READS IS OF BULK AT MOST 1048576: true; the input reads as it did. -/
def quatAfterUptoRow : OpenClaim := { program := "ytgccejhdohpojaa", sum := "16972efcf8ada3b3cdaba5b380d72e755cfcf93af2d8288588f2ab9f54f92da3", func := "alidade/alidadelaw04.QuatAfter", spec := "quatAfter", inPlace := ["math/bits.Add64"], unfollowed := true, recurses := true, named := ["math/bits.divideError", "math/bits.overflowError"], apart := false, narrowed := true }
def QuatAfterUptoSaid : Prop := quatAfterUptoRow.holds Try.pinned (OpenSpec.upto quatAfterSpec)

/-- 'alidadelaw05.TriadApart', WHERE WHAT IT READS IS OF BULK AT MOST 1048576: true; the input reads as it did. -/
def triadApartUptoRow : OpenClaim := { program := "ytgccejhdohpojaa", sum := "16972efcf8ada3b3cdaba5b380d72e755cfcf93af2d8288588f2ab9f54f92da3", func := "alidade/alidadelaw05.TriadApart", spec := "triadApart", inPlace := ["math/bits.Add64"], unfollowed := true, recurses := true, named := ["math/bits.divideError", "math/bits.overflowError"], apart := false, narrowed := true }
def TriadApartUptoSaid : Prop := triadApartUptoRow.holds Try.pinned (OpenSpec.upto triadApartSpec)

/-- 'alidadelaw05.TriadAttitude', WHERE WHAT IT READS IS OF BULK AT MOST 1048576: true; the input reads as it did. -/
def triadAttitudeUptoRow : OpenClaim := { program := "ytgccejhdohpojaa", sum := "16972efcf8ada3b3cdaba5b380d72e755cfcf93af2d8288588f2ab9f54f92da3", func := "alidade/alidadelaw05.TriadAttitude", spec := "triadAttitude", inPlace := ["math/bits.Add64"], unfollowed := true, recurses := true, named := ["math/bits.divideError", "math/bits.overflowError"], apart := false, narrowed := true }
def TriadAttitudeUptoSaid : Prop := triadAttitudeUptoRow.holds Try.pinned (OpenSpec.upto triadAttitudeSpec)

/-- 'alidadelaw04.QuatThere', WHERE WHAT IT READS IS OF BULK AT MOST 1048576: true; the input reads as it did. -/
def quatThereUptoRow : OpenClaim := { program := "ytgccejhdohpojaa", sum := "16972efcf8ada3b3cdaba5b380d72e755cfcf93af2d8288588f2ab9f54f92da3", func := "alidade/alidadelaw04.QuatThere", spec := "quatThere", inPlace := ["math/bits.Add64"], unfollowed := true, recurses := true, named := ["math/bits.divideError", "math/bits.overflowError"], apart := false, narrowed := true }
def QuatThereUptoSaid : Prop := quatThereUptoRow.holds Try.pinned (OpenSpec.upto quatThereSpec)

/-- 'alidadelaw05.TriadFirst', WHERE WHAT IT READS IS OF BULK AT MOST 1048576: true; the input reads as it did. -/
def triadFirstUptoRow : OpenClaim := { program := "ytgccejhdohpojaa", sum := "16972efcf8ada3b3cdaba5b380d72e755cfcf93af2d8288588f2ab9f54f92da3", func := "alidade/alidadelaw05.TriadFirst", spec := "triadFirst", inPlace := ["math/bits.Add64"], unfollowed := true, recurses := true, named := ["math/bits.divideError", "math/bits.overflowError"], apart := false, narrowed := true }
def TriadFirstUptoSaid : Prop := triadFirstUptoRow.holds Try.pinned (OpenSpec.upto triadFirstSpec)

/-- 'alidadelaw05.TriadBoth', WHERE WHAT IT READS IS OF BULK AT MOST 1048576: true; the input reads as it did. -/
def triadBothUptoRow : OpenClaim := { program := "ytgccejhdohpojaa", sum := "16972efcf8ada3b3cdaba5b380d72e755cfcf93af2d8288588f2ab9f54f92da3", func := "alidade/alidadelaw05.TriadBoth", spec := "triadBoth", inPlace := ["math/bits.Add64"], unfollowed := true, recurses := true, named := ["math/bits.divideError", "math/bits.overflowError"], apart := false, narrowed := true }
def TriadBothUptoSaid : Prop := triadBothUptoRow.holds Try.pinned (OpenSpec.upto triadBothSpec)

/-- 'alidadelaw14.FilterPoints', WHERE WHAT IT READS IS OF BULK AT MOST 1048576: true; the input reads as it did. -/
def filterPointsUptoRow : OpenClaim := { program := "ytgccejhdohpojaa", sum := "16972efcf8ada3b3cdaba5b380d72e755cfcf93af2d8288588f2ab9f54f92da3", func := "alidade/alidadelaw14.FilterPoints", spec := "filterPoints", inPlace := ["math/bits.Add64"], unfollowed := true, recurses := true, named := ["math/bits.divideError", "math/bits.overflowError"], apart := false, narrowed := true }
def FilterPointsUptoSaid : Prop := filterPointsUptoRow.holds Try.pinned (OpenSpec.upto filterPointsSpec)

/-- 'alidadelaw14.FilterMoves', WHERE WHAT IT READS IS OF BULK AT MOST 1048576: true; the input reads as it did. -/
def filterMovesUptoRow : OpenClaim := { program := "ytgccejhdohpojaa", sum := "16972efcf8ada3b3cdaba5b380d72e755cfcf93af2d8288588f2ab9f54f92da3", func := "alidade/alidadelaw14.FilterMoves", spec := "filterMoves", inPlace := ["math/bits.Add64"], unfollowed := true, recurses := true, named := ["math/bits.divideError", "math/bits.overflowError"], apart := false, narrowed := true }
def FilterMovesUptoSaid : Prop := filterMovesUptoRow.holds Try.pinned (OpenSpec.upto filterMovesSpec)

/-- 'alidadelaw14.FilterEven', WHERE WHAT IT READS IS OF BULK AT MOST 1048576: true; the input reads as it did. -/
def filterEvenUptoRow : OpenClaim := { program := "ytgccejhdohpojaa", sum := "16972efcf8ada3b3cdaba5b380d72e755cfcf93af2d8288588f2ab9f54f92da3", func := "alidade/alidadelaw14.FilterEven", spec := "filterEven", inPlace := ["math/bits.Add64"], unfollowed := true, recurses := true, named := ["math/bits.divideError", "math/bits.overflowError"], apart := false, narrowed := true }
def FilterEvenUptoSaid : Prop := filterEvenUptoRow.holds Try.pinned (OpenSpec.upto filterEvenSpec)

/-- 'alidadelaw14.FilterFinds', WHERE WHAT IT READS IS OF BULK AT MOST 1048576: true; the input reads as it did. -/
def filterFindsUptoRow : OpenClaim := { program := "ytgccejhdohpojaa", sum := "16972efcf8ada3b3cdaba5b380d72e755cfcf93af2d8288588f2ab9f54f92da3", func := "alidade/alidadelaw14.FilterFinds", spec := "filterFinds", inPlace := ["math/bits.Add64"], unfollowed := true, recurses := true, named := ["math/bits.divideError", "math/bits.overflowError"], apart := false, narrowed := true }
def FilterFindsUptoSaid : Prop := filterFindsUptoRow.holds Try.pinned (OpenSpec.upto filterFindsSpec)

end Rows
end Go.Proofs.Ytgccejhdohpojaa
