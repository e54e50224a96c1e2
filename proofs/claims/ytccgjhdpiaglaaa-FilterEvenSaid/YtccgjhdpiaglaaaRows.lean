/-
  No cell of these rows narrows 'for every input' (looked for: loops, veiled, ifaces, maps, wideKeys, modest, calm, conditions, laid).
  DERIVED. THE GIVEN ROWS OF THIS SEAT. 11 by the template 'for every input the law returns true; each argument reads behind the call as it read before'; 0 by the template 'total and deterministic' (their statements: YtccgjhdpiaglaaaTotals.lean).
  GIVEN WITH THE SEED: the statements are not yours to turn. If you find one false, say at which input.
  Laid BY PROGRAM, IN A SANDBOX (cutbox-rows.mjs): the forced cells as the released guide's own fill.sh prints them over the translation b6a2c68db07faaf1… (all of the seat's roots in one cut). By AI agents, Wed Nov 11 2026. No macro, syntax, notation, axiom, sorry.
-/
import Derived.Test.YtccgjhdpiaglaaaChecked
import GoSem.Claim
import GoSem.ClaimJoined
import GoSem.ClaimMapViews
import Derived.JoinedTies
import Derived.KernelRfl
namespace Go.Proofs.Ytccgjhdpiaglaaa
/- THE CELL 'sum', in the pinned program and in every row, IS THE sha256 OF THE DUMP (.gsa) THAT YtccgjhdpiaglaaaProg.lean LOADS. Nothing in Lean hashes anything: it is a label: what it is worth is what the hold of that sum in a sandbox is worth. -/
noncomputable def Try.pinned : Pinned := { name := "ytccgjhdpiaglaaa", sum := "b6a2c68db07faaf14e75e05b705630afcc2588ab4aa111c0a03c1b0920213ec5", checked := Try.checked }
namespace Rows
def none {H : Type} : Left H := { results := [], args := [] }

/-- 'alidadelaw07.ClockTurns': WHATEVER THE INPUT: true; the input reads as it did. -/
def clockTurnsSpec : ChangeSpec := { name := "clockTurns", fn := fun _ => fun
  | [d1, d2] => { results := [.lit (.bool true)], args := [d1, d2] }
  | _ => none }
def clockTurnsRow : OpenClaim := { program := "ytccgjhdpiaglaaa", sum := "b6a2c68db07faaf14e75e05b705630afcc2588ab4aa111c0a03c1b0920213ec5", func := "alidade/alidadelaw07.ClockTurns", spec := "clockTurns", named := ["math/bits.divideError", "math/bits.overflowError"], apart := false }
def ClockTurnsSaid : Prop := clockTurnsRow.holds Try.pinned (OpenSpec.ofChange clockTurnsSpec)

/-- ITS FALSE NEIGHBOUR: 'it returns false'. Refute it at one input. -/
def clockTurnsWrong : ChangeSpec := { name := "clockTurns", fn := fun _ => fun
  | [d1, d2] => { results := [.lit (.bool false)], args := [d1, d2] }
  | _ => none }
def ClockTurnsWrongFalsely : Prop := clockTurnsRow.holds Try.pinned (OpenSpec.ofChange clockTurnsWrong)

/-- 'alidadelaw03.VecUnits': WHATEVER THE INPUT: true; the input reads as it did. -/
def vecUnitsSpec : ChangeSpec := { name := "vecUnits", fn := fun _ => fun
  | [d1, d2] => { results := [.lit (.bool true)], args := [d1, d2] }
  | _ => none }
def vecUnitsRow : OpenClaim := { program := "ytccgjhdpiaglaaa", sum := "b6a2c68db07faaf14e75e05b705630afcc2588ab4aa111c0a03c1b0920213ec5", func := "alidade/alidadelaw03.VecUnits", spec := "vecUnits", inPlace := ["math/bits.Add64"], unfollowed := true, recurses := true, named := ["math/bits.divideError", "math/bits.overflowError"], apart := false }
def VecUnitsSaid : Prop := vecUnitsRow.holds Try.pinned (OpenSpec.ofChange vecUnitsSpec)

/-- ITS FALSE NEIGHBOUR: 'it returns false'. Refute it at one input. -/
def vecUnitsWrong : ChangeSpec := { name := "vecUnits", fn := fun _ => fun
  | [d1, d2] => { results := [.lit (.bool false)], args := [d1, d2] }
  | _ => none }
def VecUnitsWrongFalsely : Prop := vecUnitsRow.holds Try.pinned (OpenSpec.ofChange vecUnitsWrong)

/-- 'alidadelaw03.VecParts': WHATEVER THE INPUT: true; the input reads as it did. -/
def vecPartsSpec : ChangeSpec := { name := "vecParts", fn := fun _ => fun
  | [d1, d2, d3] => { results := [.lit (.bool true)], args := [d1, d2, d3] }
  | _ => none }
def vecPartsRow : OpenClaim := { program := "ytccgjhdpiaglaaa", sum := "b6a2c68db07faaf14e75e05b705630afcc2588ab4aa111c0a03c1b0920213ec5", func := "alidade/alidadelaw03.VecParts", spec := "vecParts", inPlace := ["math/bits.Add64"], unfollowed := true, recurses := true, named := ["math/bits.divideError", "math/bits.overflowError"], apart := false }
def VecPartsSaid : Prop := vecPartsRow.holds Try.pinned (OpenSpec.ofChange vecPartsSpec)

/-- ITS FALSE NEIGHBOUR: 'it returns false'. Refute it at one input. -/
def vecPartsWrong : ChangeSpec := { name := "vecParts", fn := fun _ => fun
  | [d1, d2, d3] => { results := [.lit (.bool false)], args := [d1, d2, d3] }
  | _ => none }
def VecPartsWrongFalsely : Prop := vecPartsRow.holds Try.pinned (OpenSpec.ofChange vecPartsWrong)

/-- 'alidadelaw06.MatSolve': WHATEVER THE INPUT: true; the input reads as it did. -/
def matSolveSpec : ChangeSpec := { name := "matSolve", fn := fun _ => fun
  | [d1, d2, d3] => { results := [.lit (.bool true)], args := [d1, d2, d3] }
  | _ => none }
def matSolveRow : OpenClaim := { program := "ytccgjhdpiaglaaa", sum := "b6a2c68db07faaf14e75e05b705630afcc2588ab4aa111c0a03c1b0920213ec5", func := "alidade/alidadelaw06.MatSolve", spec := "matSolve", named := ["math/bits.divideError", "math/bits.overflowError"], apart := false }
def MatSolveSaid : Prop := matSolveRow.holds Try.pinned (OpenSpec.ofChange matSolveSpec)

/-- ITS FALSE NEIGHBOUR: 'it returns false'. Refute it at one input. -/
def matSolveWrong : ChangeSpec := { name := "matSolve", fn := fun _ => fun
  | [d1, d2, d3] => { results := [.lit (.bool false)], args := [d1, d2, d3] }
  | _ => none }
def MatSolveWrongFalsely : Prop := matSolveRow.holds Try.pinned (OpenSpec.ofChange matSolveWrong)

/-- 'alidadelaw06.MatSums': WHATEVER THE INPUT: true; the input reads as it did. -/
def matSumsSpec : ChangeSpec := { name := "matSums", fn := fun _ => fun
  | [d1, d2, d3] => { results := [.lit (.bool true)], args := [d1, d2, d3] }
  | _ => none }
def matSumsRow : OpenClaim := { program := "ytccgjhdpiaglaaa", sum := "b6a2c68db07faaf14e75e05b705630afcc2588ab4aa111c0a03c1b0920213ec5", func := "alidade/alidadelaw06.MatSums", spec := "matSums", named := ["math/bits.divideError", "math/bits.overflowError"], apart := false }
def MatSumsSaid : Prop := matSumsRow.holds Try.pinned (OpenSpec.ofChange matSumsSpec)

/-- ITS FALSE NEIGHBOUR: 'it returns false'. Refute it at one input. -/
def matSumsWrong : ChangeSpec := { name := "matSums", fn := fun _ => fun
  | [d1, d2, d3] => { results := [.lit (.bool false)], args := [d1, d2, d3] }
  | _ => none }
def MatSumsWrongFalsely : Prop := matSumsRow.holds Try.pinned (OpenSpec.ofChange matSumsWrong)

/-- 'alidadelaw04.QuatTurn': WHATEVER THE INPUT: true; the input reads as it did. -/
def quatTurnSpec : ChangeSpec := { name := "quatTurn", fn := fun _ => fun
  | [d1, d2, d3] => { results := [.lit (.bool true)], args := [d1, d2, d3] }
  | _ => none }
def quatTurnRow : OpenClaim := { program := "ytccgjhdpiaglaaa", sum := "b6a2c68db07faaf14e75e05b705630afcc2588ab4aa111c0a03c1b0920213ec5", func := "alidade/alidadelaw04.QuatTurn", spec := "quatTurn", inPlace := ["math/bits.Add64"], unfollowed := true, recurses := true, named := ["math/bits.divideError", "math/bits.overflowError"], apart := false }
def QuatTurnSaid : Prop := quatTurnRow.holds Try.pinned (OpenSpec.ofChange quatTurnSpec)

/-- ITS FALSE NEIGHBOUR: 'it returns false'. Refute it at one input. -/
def quatTurnWrong : ChangeSpec := { name := "quatTurn", fn := fun _ => fun
  | [d1, d2, d3] => { results := [.lit (.bool false)], args := [d1, d2, d3] }
  | _ => none }
def QuatTurnWrongFalsely : Prop := quatTurnRow.holds Try.pinned (OpenSpec.ofChange quatTurnWrong)

/-- 'alidadelaw05.TriadBoth': WHATEVER THE INPUT: true; the input reads as it did. -/
def triadBothSpec : ChangeSpec := { name := "triadBoth", fn := fun _ => fun
  | [d1, d2] => { results := [.lit (.bool true)], args := [d1, d2] }
  | _ => none }
def triadBothRow : OpenClaim := { program := "ytccgjhdpiaglaaa", sum := "b6a2c68db07faaf14e75e05b705630afcc2588ab4aa111c0a03c1b0920213ec5", func := "alidade/alidadelaw05.TriadBoth", spec := "triadBoth", inPlace := ["math/bits.Add64"], unfollowed := true, recurses := true, named := ["math/bits.divideError", "math/bits.overflowError"], apart := false }
def TriadBothSaid : Prop := triadBothRow.holds Try.pinned (OpenSpec.ofChange triadBothSpec)

/-- ITS FALSE NEIGHBOUR: 'it returns false'. Refute it at one input. -/
def triadBothWrong : ChangeSpec := { name := "triadBoth", fn := fun _ => fun
  | [d1, d2] => { results := [.lit (.bool false)], args := [d1, d2] }
  | _ => none }
def TriadBothWrongFalsely : Prop := triadBothRow.holds Try.pinned (OpenSpec.ofChange triadBothWrong)

/-- 'alidadelaw14.FilterPoints': WHATEVER THE INPUT: true; the input reads as it did. -/
def filterPointsSpec : ChangeSpec := { name := "filterPoints", fn := fun _ => fun
  | [d1, d2] => { results := [.lit (.bool true)], args := [d1, d2] }
  | _ => none }
def filterPointsRow : OpenClaim := { program := "ytccgjhdpiaglaaa", sum := "b6a2c68db07faaf14e75e05b705630afcc2588ab4aa111c0a03c1b0920213ec5", func := "alidade/alidadelaw14.FilterPoints", spec := "filterPoints", inPlace := ["math/bits.Add64"], unfollowed := true, recurses := true, named := ["math/bits.divideError", "math/bits.overflowError"], apart := false }
def FilterPointsSaid : Prop := filterPointsRow.holds Try.pinned (OpenSpec.ofChange filterPointsSpec)

/-- ITS FALSE NEIGHBOUR: 'it returns false'. Refute it at one input. -/
def filterPointsWrong : ChangeSpec := { name := "filterPoints", fn := fun _ => fun
  | [d1, d2] => { results := [.lit (.bool false)], args := [d1, d2] }
  | _ => none }
def FilterPointsWrongFalsely : Prop := filterPointsRow.holds Try.pinned (OpenSpec.ofChange filterPointsWrong)

/-- 'alidadelaw14.FilterMoves': WHATEVER THE INPUT: true; the input reads as it did. -/
def filterMovesSpec : ChangeSpec := { name := "filterMoves", fn := fun _ => fun
  | [d1, d2, d3] => { results := [.lit (.bool true)], args := [d1, d2, d3] }
  | _ => none }
def filterMovesRow : OpenClaim := { program := "ytccgjhdpiaglaaa", sum := "b6a2c68db07faaf14e75e05b705630afcc2588ab4aa111c0a03c1b0920213ec5", func := "alidade/alidadelaw14.FilterMoves", spec := "filterMoves", inPlace := ["math/bits.Add64"], unfollowed := true, recurses := true, named := ["math/bits.divideError", "math/bits.overflowError"], apart := false }
def FilterMovesSaid : Prop := filterMovesRow.holds Try.pinned (OpenSpec.ofChange filterMovesSpec)

/-- ITS FALSE NEIGHBOUR: 'it returns false'. Refute it at one input. -/
def filterMovesWrong : ChangeSpec := { name := "filterMoves", fn := fun _ => fun
  | [d1, d2, d3] => { results := [.lit (.bool false)], args := [d1, d2, d3] }
  | _ => none }
def FilterMovesWrongFalsely : Prop := filterMovesRow.holds Try.pinned (OpenSpec.ofChange filterMovesWrong)

/-- 'alidadelaw14.FilterEven': WHATEVER THE INPUT: true; the input reads as it did. -/
def filterEvenSpec : ChangeSpec := { name := "filterEven", fn := fun _ => fun
  | [d1, d2, d3] => { results := [.lit (.bool true)], args := [d1, d2, d3] }
  | _ => none }
def filterEvenRow : OpenClaim := { program := "ytccgjhdpiaglaaa", sum := "b6a2c68db07faaf14e75e05b705630afcc2588ab4aa111c0a03c1b0920213ec5", func := "alidade/alidadelaw14.FilterEven", spec := "filterEven", inPlace := ["math/bits.Add64"], unfollowed := true, recurses := true, named := ["math/bits.divideError", "math/bits.overflowError"], apart := false }
def FilterEvenSaid : Prop := filterEvenRow.holds Try.pinned (OpenSpec.ofChange filterEvenSpec)

/-- ITS FALSE NEIGHBOUR: 'it returns false'. Refute it at one input. -/
def filterEvenWrong : ChangeSpec := { name := "filterEven", fn := fun _ => fun
  | [d1, d2, d3] => { results := [.lit (.bool false)], args := [d1, d2, d3] }
  | _ => none }
def FilterEvenWrongFalsely : Prop := filterEvenRow.holds Try.pinned (OpenSpec.ofChange filterEvenWrong)

/-- 'alidadelaw14.FilterFinds': WHATEVER THE INPUT: true; the input reads as it did. -/
def filterFindsSpec : ChangeSpec := { name := "filterFinds", fn := fun _ => fun
  | [d1, d2] => { results := [.lit (.bool true)], args := [d1, d2] }
  | _ => none }
def filterFindsRow : OpenClaim := { program := "ytccgjhdpiaglaaa", sum := "b6a2c68db07faaf14e75e05b705630afcc2588ab4aa111c0a03c1b0920213ec5", func := "alidade/alidadelaw14.FilterFinds", spec := "filterFinds", inPlace := ["math/bits.Add64"], unfollowed := true, recurses := true, named := ["math/bits.divideError", "math/bits.overflowError"], apart := false }
def FilterFindsSaid : Prop := filterFindsRow.holds Try.pinned (OpenSpec.ofChange filterFindsSpec)

/-- ITS FALSE NEIGHBOUR: 'it returns false'. Refute it at one input. -/
def filterFindsWrong : ChangeSpec := { name := "filterFinds", fn := fun _ => fun
  | [d1, d2] => { results := [.lit (.bool false)], args := [d1, d2] }
  | _ => none }
def FilterFindsWrongFalsely : Prop := filterFindsRow.holds Try.pinned (OpenSpec.ofChange filterFindsWrong)

/- THE SECOND FORM. 'bulk': how many values and letters a reading holds, each counted each time it is reached (what is shared counts as often as it is met; a slice's spare places count too). A statement '..UptoSaid' is the law's where the arguments, and the package variables that the reading takes, are together of bulk at most 1048576: NARROWER than '..Said'. Prove '..Said' where nothing that the law and all that it calls make is longer than what came in: it says more and counts as full. Else prove '..UptoSaid'. A law counts once. -/
mutual
def uptoBulk {H : Type} : DataW H → Nat
  | .lit (.string bytes) => bytes.length + 1
  | .lit _ => 1
  | .nil => 1
  | .ptr d => uptoBulk d + 1
  | .slice elems spare => uptoBulkAll elems + uptoBulkAll spare + 1
  | .agg parts => uptoBulkAll parts + 1
  | .iface _ d => uptoBulk d + 1
  | .map entries => uptoBulkEntries entries + 1
  | .held _ => 1
def uptoBulkAll {H : Type} : List (DataW H) → Nat
  | [] => 0
  | d :: r => uptoBulk d + uptoBulkAll r
def uptoBulkEntries {H : Type} : List (Lit × DataW H) → Nat
  | [] => 0
  | x :: r => uptoBulkEntry x + uptoBulkEntries r
def uptoBulkEntry {H : Type} : Lit × DataW H → Nat
  | (.string bytes, d) => bytes.length + uptoBulk d + 1
  | (_, d) => uptoBulk d + 1
 end
def uptoSmall : (H : Type) → List (DataW H) → Bool := fun _ ds => decide (uptoBulkAll ds ≤ 1048576)
def OpenSpec.upto (s : _root_.Go.ChangeSpec) : _root_.Go.OpenSpec := { _root_.Go.OpenSpec.ofChange s with cond := some uptoSmall }

/-- 'alidadelaw07.ClockTurns', WHERE WHAT IT READS IS OF BULK AT MOST 1048576: true; the input reads as it did. -/
def clockTurnsUptoRow : OpenClaim := { program := "ytccgjhdpiaglaaa", sum := "b6a2c68db07faaf14e75e05b705630afcc2588ab4aa111c0a03c1b0920213ec5", func := "alidade/alidadelaw07.ClockTurns", spec := "clockTurns", named := ["math/bits.divideError", "math/bits.overflowError"], apart := false, narrowed := true }
def ClockTurnsUptoSaid : Prop := clockTurnsUptoRow.holds Try.pinned (OpenSpec.upto clockTurnsSpec)

/-- 'alidadelaw03.VecUnits', WHERE WHAT IT READS IS OF BULK AT MOST 1048576: true; the input reads as it did. -/
def vecUnitsUptoRow : OpenClaim := { program := "ytccgjhdpiaglaaa", sum := "b6a2c68db07faaf14e75e05b705630afcc2588ab4aa111c0a03c1b0920213ec5", func := "alidade/alidadelaw03.VecUnits", spec := "vecUnits", inPlace := ["math/bits.Add64"], unfollowed := true, recurses := true, named := ["math/bits.divideError", "math/bits.overflowError"], apart := false, narrowed := true }
def VecUnitsUptoSaid : Prop := vecUnitsUptoRow.holds Try.pinned (OpenSpec.upto vecUnitsSpec)

/-- 'alidadelaw03.VecParts', WHERE WHAT IT READS IS OF BULK AT MOST 1048576: true; the input reads as it did. -/
def vecPartsUptoRow : OpenClaim := { program := "ytccgjhdpiaglaaa", sum := "b6a2c68db07faaf14e75e05b705630afcc2588ab4aa111c0a03c1b0920213ec5", func := "alidade/alidadelaw03.VecParts", spec := "vecParts", inPlace := ["math/bits.Add64"], unfollowed := true, recurses := true, named := ["math/bits.divideError", "math/bits.overflowError"], apart := false, narrowed := true }
def VecPartsUptoSaid : Prop := vecPartsUptoRow.holds Try.pinned (OpenSpec.upto vecPartsSpec)

/-- 'alidadelaw06.MatSolve', WHERE WHAT IT READS IS OF BULK AT MOST 1048576: true; the input reads as it did. -/
def matSolveUptoRow : OpenClaim := { program := "ytccgjhdpiaglaaa", sum := "b6a2c68db07faaf14e75e05b705630afcc2588ab4aa111c0a03c1b0920213ec5", func := "alidade/alidadelaw06.MatSolve", spec := "matSolve", named := ["math/bits.divideError", "math/bits.overflowError"], apart := false, narrowed := true }
def MatSolveUptoSaid : Prop := matSolveUptoRow.holds Try.pinned (OpenSpec.upto matSolveSpec)

/-- 'alidadelaw06.MatSums', WHERE WHAT IT READS IS OF BULK AT MOST 1048576: true; the input reads as it did. -/
def matSumsUptoRow : OpenClaim := { program := "ytccgjhdpiaglaaa", sum := "b6a2c68db07faaf14e75e05b705630afcc2588ab4aa111c0a03c1b0920213ec5", func := "alidade/alidadelaw06.MatSums", spec := "matSums", named := ["math/bits.divideError", "math/bits.overflowError"], apart := false, narrowed := true }
def MatSumsUptoSaid : Prop := matSumsUptoRow.holds Try.pinned (OpenSpec.upto matSumsSpec)

/-- 'alidadelaw04.QuatTurn', WHERE WHAT IT READS IS OF BULK AT MOST 1048576: true; the input reads as it did. -/
def quatTurnUptoRow : OpenClaim := { program := "ytccgjhdpiaglaaa", sum := "b6a2c68db07faaf14e75e05b705630afcc2588ab4aa111c0a03c1b0920213ec5", func := "alidade/alidadelaw04.QuatTurn", spec := "quatTurn", inPlace := ["math/bits.Add64"], unfollowed := true, recurses := true, named := ["math/bits.divideError", "math/bits.overflowError"], apart := false, narrowed := true }
def QuatTurnUptoSaid : Prop := quatTurnUptoRow.holds Try.pinned (OpenSpec.upto quatTurnSpec)

/-- 'alidadelaw05.TriadBoth', WHERE WHAT IT READS IS OF BULK AT MOST 1048576: true; the input reads as it did. -/
def triadBothUptoRow : OpenClaim := { program := "ytccgjhdpiaglaaa", sum := "b6a2c68db07faaf14e75e05b705630afcc2588ab4aa111c0a03c1b0920213ec5", func := "alidade/alidadelaw05.TriadBoth", spec := "triadBoth", inPlace := ["math/bits.Add64"], unfollowed := true, recurses := true, named := ["math/bits.divideError", "math/bits.overflowError"], apart := false, narrowed := true }
def TriadBothUptoSaid : Prop := triadBothUptoRow.holds Try.pinned (OpenSpec.upto triadBothSpec)

/-- 'alidadelaw14.FilterPoints', WHERE WHAT IT READS IS OF BULK AT MOST 1048576: true; the input reads as it did. -/
def filterPointsUptoRow : OpenClaim := { program := "ytccgjhdpiaglaaa", sum := "b6a2c68db07faaf14e75e05b705630afcc2588ab4aa111c0a03c1b0920213ec5", func := "alidade/alidadelaw14.FilterPoints", spec := "filterPoints", inPlace := ["math/bits.Add64"], unfollowed := true, recurses := true, named := ["math/bits.divideError", "math/bits.overflowError"], apart := false, narrowed := true }
def FilterPointsUptoSaid : Prop := filterPointsUptoRow.holds Try.pinned (OpenSpec.upto filterPointsSpec)

/-- 'alidadelaw14.FilterMoves', WHERE WHAT IT READS IS OF BULK AT MOST 1048576: true; the input reads as it did. -/
def filterMovesUptoRow : OpenClaim := { program := "ytccgjhdpiaglaaa", sum := "b6a2c68db07faaf14e75e05b705630afcc2588ab4aa111c0a03c1b0920213ec5", func := "alidade/alidadelaw14.FilterMoves", spec := "filterMoves", inPlace := ["math/bits.Add64"], unfollowed := true, recurses := true, named := ["math/bits.divideError", "math/bits.overflowError"], apart := false, narrowed := true }
def FilterMovesUptoSaid : Prop := filterMovesUptoRow.holds Try.pinned (OpenSpec.upto filterMovesSpec)

/-- 'alidadelaw14.FilterEven', WHERE WHAT IT READS IS OF BULK AT MOST 1048576: true; the input reads as it did. -/
def filterEvenUptoRow : OpenClaim := { program := "ytccgjhdpiaglaaa", sum := "b6a2c68db07faaf14e75e05b705630afcc2588ab4aa111c0a03c1b0920213ec5", func := "alidade/alidadelaw14.FilterEven", spec := "filterEven", inPlace := ["math/bits.Add64"], unfollowed := true, recurses := true, named := ["math/bits.divideError", "math/bits.overflowError"], apart := false, narrowed := true }
def FilterEvenUptoSaid : Prop := filterEvenUptoRow.holds Try.pinned (OpenSpec.upto filterEvenSpec)

/-- 'alidadelaw14.FilterFinds', WHERE WHAT IT READS IS OF BULK AT MOST 1048576: true; the input reads as it did. -/
def filterFindsUptoRow : OpenClaim := { program := "ytccgjhdpiaglaaa", sum := "b6a2c68db07faaf14e75e05b705630afcc2588ab4aa111c0a03c1b0920213ec5", func := "alidade/alidadelaw14.FilterFinds", spec := "filterFinds", inPlace := ["math/bits.Add64"], unfollowed := true, recurses := true, named := ["math/bits.divideError", "math/bits.overflowError"], apart := false, narrowed := true }
def FilterFindsUptoSaid : Prop := filterFindsUptoRow.holds Try.pinned (OpenSpec.upto filterFindsSpec)

end Rows
end Go.Proofs.Ytccgjhdpiaglaaa
