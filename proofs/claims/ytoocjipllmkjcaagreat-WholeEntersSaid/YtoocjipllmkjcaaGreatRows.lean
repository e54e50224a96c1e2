/-
  No cell of these rows narrows 'for every input' (looked for: loops, veiled, ifaces, maps, wideKeys, modest, calm, conditions, laid).
  DERIVED. THE GIVEN ROWS OF THIS SEAT. 10 by the template 'for every input the law returns true; each argument reads behind the call as it read before'; 0 by the template 'total and deterministic' (their statements: YtoocjipllmkjcaaGreatTotals.lean).
  GIVEN WITH THE SEED: the statements are not yours to turn. If you find one false, say at which input.
  Laid BY PROGRAM, IN A SANDBOX (cutbox-rows.mjs): the forced cells as the released guide's own fill.sh prints them over the translation f8a0bef206d3f794… (all of the seat's roots in one cut). By AI agents, Wed Nov 11 2026. No macro, syntax, notation, axiom, sorry.
-/
import Derived.Test.YtoocjipllmkjcaaGreatChecked
import GoSem.Claim
import GoSem.ClaimJoined
import GoSem.ClaimMapViews
import Derived.JoinedTies
import Derived.KernelRfl
namespace Go.Proofs.YtoocjipllmkjcaaGreat
/- THE CELL 'sum', in the pinned program and in every row, IS THE sha256 OF THE DUMP (.gsa) THAT YtoocjipllmkjcaaGreatProg.lean LOADS. Nothing in Lean hashes anything: it is a label: what it is worth is what the hold of that sum in a sandbox is worth. -/
noncomputable def Tryz.pinned : Pinned := { name := "ytoocjipllmkjcaagreat", sum := "f8a0bef206d3f79437b3215bdc38aae8c41a92337062d492dfc9bb6b04cd3f3e", checked := Tryz.checked }
namespace Rows
def none {H : Type} : Left H := { results := [], args := [] }

/-- 'alidadetop.WholeModes': WHATEVER THE INPUT: true; the input reads as it did. -/
def wholeModesSpec : ChangeSpec := { name := "wholeModes", fn := fun _ => fun
  | [d] => { results := [.lit (.bool true)], args := [d] }
  | _ => none }
def wholeModesRow : OpenClaim := { program := "ytoocjipllmkjcaagreat", sum := "f8a0bef206d3f79437b3215bdc38aae8c41a92337062d492dfc9bb6b04cd3f3e", func := "alidade/alidadetop.WholeModes", spec := "wholeModes", inPlace := ["internal/bytealg.IndexByteString", "math/bits.Add64"], unfollowed := true, recurses := true, named := ["math/bits.divideError", "math/bits.overflowError"], plainKeys := false, apart := false }
def WholeModesSaid : Prop := wholeModesRow.holds Tryz.pinned (OpenSpec.ofChange wholeModesSpec)

/-- ITS FALSE NEIGHBOUR: 'it returns false'. Refute it at one input. -/
def wholeModesWrong : ChangeSpec := { name := "wholeModes", fn := fun _ => fun
  | [d] => { results := [.lit (.bool false)], args := [d] }
  | _ => none }
def WholeModesWrongFalsely : Prop := wholeModesRow.holds Tryz.pinned (OpenSpec.ofChange wholeModesWrong)

/-- 'alidadetop.WholeGaps': WHATEVER THE INPUT: true; the input reads as it did. -/
def wholeGapsSpec : ChangeSpec := { name := "wholeGaps", fn := fun _ => fun
  | [d] => { results := [.lit (.bool true)], args := [d] }
  | _ => none }
def wholeGapsRow : OpenClaim := { program := "ytoocjipllmkjcaagreat", sum := "f8a0bef206d3f79437b3215bdc38aae8c41a92337062d492dfc9bb6b04cd3f3e", func := "alidade/alidadetop.WholeGaps", spec := "wholeGaps", inPlace := ["internal/bytealg.IndexByteString", "math/bits.Add64"], unfollowed := true, recurses := true, named := ["math/bits.divideError", "math/bits.overflowError"], plainKeys := false, apart := false }
def WholeGapsSaid : Prop := wholeGapsRow.holds Tryz.pinned (OpenSpec.ofChange wholeGapsSpec)

/-- ITS FALSE NEIGHBOUR: 'it returns false'. Refute it at one input. -/
def wholeGapsWrong : ChangeSpec := { name := "wholeGaps", fn := fun _ => fun
  | [d] => { results := [.lit (.bool false)], args := [d] }
  | _ => none }
def WholeGapsWrongFalsely : Prop := wholeGapsRow.holds Tryz.pinned (OpenSpec.ofChange wholeGapsWrong)

/-- 'alidadetop.WholeDipoles': WHATEVER THE INPUT: true; the input reads as it did. -/
def wholeDipolesSpec : ChangeSpec := { name := "wholeDipoles", fn := fun _ => fun
  | [d] => { results := [.lit (.bool true)], args := [d] }
  | _ => none }
def wholeDipolesRow : OpenClaim := { program := "ytoocjipllmkjcaagreat", sum := "f8a0bef206d3f79437b3215bdc38aae8c41a92337062d492dfc9bb6b04cd3f3e", func := "alidade/alidadetop.WholeDipoles", spec := "wholeDipoles", inPlace := ["internal/bytealg.IndexByteString", "math/bits.Add64"], unfollowed := true, recurses := true, named := ["math/bits.divideError", "math/bits.overflowError"], plainKeys := false, apart := false }
def WholeDipolesSaid : Prop := wholeDipolesRow.holds Tryz.pinned (OpenSpec.ofChange wholeDipolesSpec)

/-- ITS FALSE NEIGHBOUR: 'it returns false'. Refute it at one input. -/
def wholeDipolesWrong : ChangeSpec := { name := "wholeDipoles", fn := fun _ => fun
  | [d] => { results := [.lit (.bool false)], args := [d] }
  | _ => none }
def WholeDipolesWrongFalsely : Prop := wholeDipolesRow.holds Tryz.pinned (OpenSpec.ofChange wholeDipolesWrong)

/-- 'alidadelaw14.FilterMeets': WHATEVER THE INPUT: true; the input reads as it did. -/
def filterMeetsSpec : ChangeSpec := { name := "filterMeets", fn := fun _ => fun
  | [d1, d2, d3] => { results := [.lit (.bool true)], args := [d1, d2, d3] }
  | _ => none }
def filterMeetsRow : OpenClaim := { program := "ytoocjipllmkjcaagreat", sum := "f8a0bef206d3f79437b3215bdc38aae8c41a92337062d492dfc9bb6b04cd3f3e", func := "alidade/alidadelaw14.FilterMeets", spec := "filterMeets", inPlace := ["math/bits.Add64"], unfollowed := true, recurses := true, named := ["math/bits.divideError", "math/bits.overflowError"], plainKeys := false, apart := false }
def FilterMeetsSaid : Prop := filterMeetsRow.holds Tryz.pinned (OpenSpec.ofChange filterMeetsSpec)

/-- ITS FALSE NEIGHBOUR: 'it returns false'. Refute it at one input. -/
def filterMeetsWrong : ChangeSpec := { name := "filterMeets", fn := fun _ => fun
  | [d1, d2, d3] => { results := [.lit (.bool false)], args := [d1, d2, d3] }
  | _ => none }
def FilterMeetsWrongFalsely : Prop := filterMeetsRow.holds Tryz.pinned (OpenSpec.ofChange filterMeetsWrong)

/-- 'alidadelaw18.CraftSteps': WHATEVER THE INPUT: true; the input reads as it did. -/
def craftStepsSpec : ChangeSpec := { name := "craftSteps", fn := fun _ => fun
  | [d1, d2, d3] => { results := [.lit (.bool true)], args := [d1, d2, d3] }
  | _ => none }
def craftStepsRow : OpenClaim := { program := "ytoocjipllmkjcaagreat", sum := "f8a0bef206d3f79437b3215bdc38aae8c41a92337062d492dfc9bb6b04cd3f3e", func := "alidade/alidadelaw18.CraftSteps", spec := "craftSteps", inPlace := ["internal/bytealg.IndexByteString", "math/bits.Add64"], unfollowed := true, recurses := true, named := ["math/bits.divideError", "math/bits.overflowError"], plainKeys := false, apart := false }
def CraftStepsSaid : Prop := craftStepsRow.holds Tryz.pinned (OpenSpec.ofChange craftStepsSpec)

/-- ITS FALSE NEIGHBOUR: 'it returns false'. Refute it at one input. -/
def craftStepsWrong : ChangeSpec := { name := "craftSteps", fn := fun _ => fun
  | [d1, d2, d3] => { results := [.lit (.bool false)], args := [d1, d2, d3] }
  | _ => none }
def CraftStepsWrongFalsely : Prop := craftStepsRow.holds Tryz.pinned (OpenSpec.ofChange craftStepsWrong)

/-- 'alidadelaw18.CraftRuns': WHATEVER THE INPUT: true; the input reads as it did. -/
def craftRunsSpec : ChangeSpec := { name := "craftRuns", fn := fun _ => fun
  | [d1, d2] => { results := [.lit (.bool true)], args := [d1, d2] }
  | _ => none }
def craftRunsRow : OpenClaim := { program := "ytoocjipllmkjcaagreat", sum := "f8a0bef206d3f79437b3215bdc38aae8c41a92337062d492dfc9bb6b04cd3f3e", func := "alidade/alidadelaw18.CraftRuns", spec := "craftRuns", inPlace := ["internal/bytealg.IndexByteString", "math/bits.Add64"], unfollowed := true, recurses := true, named := ["math/bits.divideError", "math/bits.overflowError"], plainKeys := false, apart := false }
def CraftRunsSaid : Prop := craftRunsRow.holds Tryz.pinned (OpenSpec.ofChange craftRunsSpec)

/-- ITS FALSE NEIGHBOUR: 'it returns false'. Refute it at one input. -/
def craftRunsWrong : ChangeSpec := { name := "craftRuns", fn := fun _ => fun
  | [d1, d2] => { results := [.lit (.bool false)], args := [d1, d2] }
  | _ => none }
def CraftRunsWrongFalsely : Prop := craftRunsRow.holds Tryz.pinned (OpenSpec.ofChange craftRunsWrong)

/-- 'alidadelaw18.CraftHolds': WHATEVER THE INPUT: true; the input reads as it did. -/
def craftHoldsSpec : ChangeSpec := { name := "craftHolds", fn := fun _ => fun
  | [d1, d2] => { results := [.lit (.bool true)], args := [d1, d2] }
  | _ => none }
def craftHoldsRow : OpenClaim := { program := "ytoocjipllmkjcaagreat", sum := "f8a0bef206d3f79437b3215bdc38aae8c41a92337062d492dfc9bb6b04cd3f3e", func := "alidade/alidadelaw18.CraftHolds", spec := "craftHolds", inPlace := ["internal/bytealg.IndexByteString", "math/bits.Add64"], unfollowed := true, recurses := true, named := ["math/bits.divideError", "math/bits.overflowError"], plainKeys := false, apart := false }
def CraftHoldsSaid : Prop := craftHoldsRow.holds Tryz.pinned (OpenSpec.ofChange craftHoldsSpec)

/-- ITS FALSE NEIGHBOUR: 'it returns false'. Refute it at one input. -/
def craftHoldsWrong : ChangeSpec := { name := "craftHolds", fn := fun _ => fun
  | [d1, d2] => { results := [.lit (.bool false)], args := [d1, d2] }
  | _ => none }
def CraftHoldsWrongFalsely : Prop := craftHoldsRow.holds Tryz.pinned (OpenSpec.ofChange craftHoldsWrong)

/-- 'alidadelaw18.CraftForeign': WHATEVER THE INPUT: true; the input reads as it did. -/
def craftForeignSpec : ChangeSpec := { name := "craftForeign", fn := fun _ => fun
  | [d1, d2, d3] => { results := [.lit (.bool true)], args := [d1, d2, d3] }
  | _ => none }
def craftForeignRow : OpenClaim := { program := "ytoocjipllmkjcaagreat", sum := "f8a0bef206d3f79437b3215bdc38aae8c41a92337062d492dfc9bb6b04cd3f3e", func := "alidade/alidadelaw18.CraftForeign", spec := "craftForeign", inPlace := ["internal/bytealg.IndexByteString", "math/bits.Add64"], unfollowed := true, recurses := true, named := ["math/bits.divideError", "math/bits.overflowError"], plainKeys := false, apart := false }
def CraftForeignSaid : Prop := craftForeignRow.holds Tryz.pinned (OpenSpec.ofChange craftForeignSpec)

/-- ITS FALSE NEIGHBOUR: 'it returns false'. Refute it at one input. -/
def craftForeignWrong : ChangeSpec := { name := "craftForeign", fn := fun _ => fun
  | [d1, d2, d3] => { results := [.lit (.bool false)], args := [d1, d2, d3] }
  | _ => none }
def CraftForeignWrongFalsely : Prop := craftForeignRow.holds Tryz.pinned (OpenSpec.ofChange craftForeignWrong)

/-- 'alidadelaw18.CraftFine': WHATEVER THE INPUT: true; the input reads as it did. -/
def craftFineSpec : ChangeSpec := { name := "craftFine", fn := fun _ => fun
  | [d1, d2, d3] => { results := [.lit (.bool true)], args := [d1, d2, d3] }
  | _ => none }
def craftFineRow : OpenClaim := { program := "ytoocjipllmkjcaagreat", sum := "f8a0bef206d3f79437b3215bdc38aae8c41a92337062d492dfc9bb6b04cd3f3e", func := "alidade/alidadelaw18.CraftFine", spec := "craftFine", inPlace := ["internal/bytealg.IndexByteString", "math/bits.Add64"], unfollowed := true, recurses := true, named := ["math/bits.divideError", "math/bits.overflowError"], plainKeys := false, apart := false }
def CraftFineSaid : Prop := craftFineRow.holds Tryz.pinned (OpenSpec.ofChange craftFineSpec)

/-- ITS FALSE NEIGHBOUR: 'it returns false'. Refute it at one input. -/
def craftFineWrong : ChangeSpec := { name := "craftFine", fn := fun _ => fun
  | [d1, d2, d3] => { results := [.lit (.bool false)], args := [d1, d2, d3] }
  | _ => none }
def CraftFineWrongFalsely : Prop := craftFineRow.holds Tryz.pinned (OpenSpec.ofChange craftFineWrong)

/-- 'alidadetop.WholeEnters': WHATEVER THE INPUT: true; the input reads as it did. -/
def wholeEntersSpec : ChangeSpec := { name := "wholeEnters", fn := fun _ => fun
  | [d] => { results := [.lit (.bool true)], args := [d] }
  | _ => none }
def wholeEntersRow : OpenClaim := { program := "ytoocjipllmkjcaagreat", sum := "f8a0bef206d3f79437b3215bdc38aae8c41a92337062d492dfc9bb6b04cd3f3e", func := "alidade/alidadetop.WholeEnters", spec := "wholeEnters", inPlace := ["internal/bytealg.IndexByteString", "math/bits.Add64"], unfollowed := true, recurses := true, named := ["math/bits.divideError", "math/bits.overflowError"], plainKeys := false, apart := false }
def WholeEntersSaid : Prop := wholeEntersRow.holds Tryz.pinned (OpenSpec.ofChange wholeEntersSpec)

/-- ITS FALSE NEIGHBOUR: 'it returns false'. Refute it at one input. -/
def wholeEntersWrong : ChangeSpec := { name := "wholeEnters", fn := fun _ => fun
  | [d] => { results := [.lit (.bool false)], args := [d] }
  | _ => none }
def WholeEntersWrongFalsely : Prop := wholeEntersRow.holds Tryz.pinned (OpenSpec.ofChange wholeEntersWrong)

/- THE SECOND FORM. 'bulk': how many values and letters a reading holds, each counted each time it is reached (what is shared counts as often as it is met; a slice's spare places count too). A statement '..UptoSaid' is the law's where the arguments, and the package variables that the reading takes, are together of bulk at most 1048576: NARROWER than '..Said'. Prove '..Said' where nothing that the law and all that it calls make is longer than what came in: it says more and counts as full. Else prove '..UptoSaid'. A law counts once. -/
mutual
def uptoBulk {H : Type} : DataW H → Nat
  | .lit (.string bytes) => bytes.length + 1
  | .lit _ => 1
  | .nil => 1
  | .ptr d => uptoBulk d + 1
  | .slice elems spare => uptoBulkAll elems + uptoBulkAll spare + 1
  | .agg parts => uptoBulkAll parts + 1
  | .iface _ d => uptoBulk d + 1
  | .map entries => uptoBulkEntries entries + 1
  | .held _ => 1
def uptoBulkAll {H : Type} : List (DataW H) → Nat
  | [] => 0
  | d :: r => uptoBulk d + uptoBulkAll r
def uptoBulkEntries {H : Type} : List (Lit × DataW H) → Nat
  | [] => 0
  | x :: r => uptoBulkEntry x + uptoBulkEntries r
def uptoBulkEntry {H : Type} : Lit × DataW H → Nat
  | (.string bytes, d) => bytes.length + uptoBulk d + 1
  | (_, d) => uptoBulk d + 1
 end
def uptoSmall : (H : Type) → List (DataW H) → Bool := fun _ ds => decide (uptoBulkAll ds ≤ 1048576)
def OpenSpec.upto (s : _root_.Go.ChangeSpec) : _root_.Go.OpenSpec := { _root_.Go.OpenSpec.ofChange s with cond := some uptoSmall }

/-- 'alidadetop.WholeModes', WHERE WHAT IT READS IS OF BULK AT MOST 1048576: true; the input reads as it did. -/
def wholeModesUptoRow : OpenClaim := { program := "ytoocjipllmkjcaagreat", sum := "f8a0bef206d3f79437b3215bdc38aae8c41a92337062d492dfc9bb6b04cd3f3e", func := "alidade/alidadetop.WholeModes", spec := "wholeModes", inPlace := ["internal/bytealg.IndexByteString", "math/bits.Add64"], unfollowed := true, recurses := true, named := ["math/bits.divideError", "math/bits.overflowError"], plainKeys := false, apart := false, narrowed := true }
def WholeModesUptoSaid : Prop := wholeModesUptoRow.holds Tryz.pinned (OpenSpec.upto wholeModesSpec)

/-- 'alidadetop.WholeGaps', WHERE WHAT IT READS IS OF BULK AT MOST 1048576: true; the input reads as it did. -/
def wholeGapsUptoRow : OpenClaim := { program := "ytoocjipllmkjcaagreat", sum := "f8a0bef206d3f79437b3215bdc38aae8c41a92337062d492dfc9bb6b04cd3f3e", func := "alidade/alidadetop.WholeGaps", spec := "wholeGaps", inPlace := ["internal/bytealg.IndexByteString", "math/bits.Add64"], unfollowed := true, recurses := true, named := ["math/bits.divideError", "math/bits.overflowError"], plainKeys := false, apart := false, narrowed := true }
def WholeGapsUptoSaid : Prop := wholeGapsUptoRow.holds Tryz.pinned (OpenSpec.upto wholeGapsSpec)

/-- 'alidadetop.WholeDipoles', WHERE WHAT IT READS IS OF BULK AT MOST 1048576: true; the input reads as it did. -/
def wholeDipolesUptoRow : OpenClaim := { program := "ytoocjipllmkjcaagreat", sum := "f8a0bef206d3f79437b3215bdc38aae8c41a92337062d492dfc9bb6b04cd3f3e", func := "alidade/alidadetop.WholeDipoles", spec := "wholeDipoles", inPlace := ["internal/bytealg.IndexByteString", "math/bits.Add64"], unfollowed := true, recurses := true, named := ["math/bits.divideError", "math/bits.overflowError"], plainKeys := false, apart := false, narrowed := true }
def WholeDipolesUptoSaid : Prop := wholeDipolesUptoRow.holds Tryz.pinned (OpenSpec.upto wholeDipolesSpec)

/-- 'alidadelaw14.FilterMeets', WHERE WHAT IT READS IS OF BULK AT MOST 1048576: true; the input reads as it did. -/
def filterMeetsUptoRow : OpenClaim := { program := "ytoocjipllmkjcaagreat", sum := "f8a0bef206d3f79437b3215bdc38aae8c41a92337062d492dfc9bb6b04cd3f3e", func := "alidade/alidadelaw14.FilterMeets", spec := "filterMeets", inPlace := ["math/bits.Add64"], unfollowed := true, recurses := true, named := ["math/bits.divideError", "math/bits.overflowError"], plainKeys := false, apart := false, narrowed := true }
def FilterMeetsUptoSaid : Prop := filterMeetsUptoRow.holds Tryz.pinned (OpenSpec.upto filterMeetsSpec)

/-- 'alidadelaw18.CraftSteps', WHERE WHAT IT READS IS OF BULK AT MOST 1048576: true; the input reads as it did. -/
def craftStepsUptoRow : OpenClaim := { program := "ytoocjipllmkjcaagreat", sum := "f8a0bef206d3f79437b3215bdc38aae8c41a92337062d492dfc9bb6b04cd3f3e", func := "alidade/alidadelaw18.CraftSteps", spec := "craftSteps", inPlace := ["internal/bytealg.IndexByteString", "math/bits.Add64"], unfollowed := true, recurses := true, named := ["math/bits.divideError", "math/bits.overflowError"], plainKeys := false, apart := false, narrowed := true }
def CraftStepsUptoSaid : Prop := craftStepsUptoRow.holds Tryz.pinned (OpenSpec.upto craftStepsSpec)

/-- 'alidadelaw18.CraftRuns', WHERE WHAT IT READS IS OF BULK AT MOST 1048576: true; the input reads as it did. -/
def craftRunsUptoRow : OpenClaim := { program := "ytoocjipllmkjcaagreat", sum := "f8a0bef206d3f79437b3215bdc38aae8c41a92337062d492dfc9bb6b04cd3f3e", func := "alidade/alidadelaw18.CraftRuns", spec := "craftRuns", inPlace := ["internal/bytealg.IndexByteString", "math/bits.Add64"], unfollowed := true, recurses := true, named := ["math/bits.divideError", "math/bits.overflowError"], plainKeys := false, apart := false, narrowed := true }
def CraftRunsUptoSaid : Prop := craftRunsUptoRow.holds Tryz.pinned (OpenSpec.upto craftRunsSpec)

/-- 'alidadelaw18.CraftHolds', WHERE WHAT IT READS IS OF BULK AT MOST 1048576: true; the input reads as it did. -/
def craftHoldsUptoRow : OpenClaim := { program := "ytoocjipllmkjcaagreat", sum := "f8a0bef206d3f79437b3215bdc38aae8c41a92337062d492dfc9bb6b04cd3f3e", func := "alidade/alidadelaw18.CraftHolds", spec := "craftHolds", inPlace := ["internal/bytealg.IndexByteString", "math/bits.Add64"], unfollowed := true, recurses := true, named := ["math/bits.divideError", "math/bits.overflowError"], plainKeys := false, apart := false, narrowed := true }
def CraftHoldsUptoSaid : Prop := craftHoldsUptoRow.holds Tryz.pinned (OpenSpec.upto craftHoldsSpec)

/-- 'alidadelaw18.CraftForeign', WHERE WHAT IT READS IS OF BULK AT MOST 1048576: true; the input reads as it did. -/
def craftForeignUptoRow : OpenClaim := { program := "ytoocjipllmkjcaagreat", sum := "f8a0bef206d3f79437b3215bdc38aae8c41a92337062d492dfc9bb6b04cd3f3e", func := "alidade/alidadelaw18.CraftForeign", spec := "craftForeign", inPlace := ["internal/bytealg.IndexByteString", "math/bits.Add64"], unfollowed := true, recurses := true, named := ["math/bits.divideError", "math/bits.overflowError"], plainKeys := false, apart := false, narrowed := true }
def CraftForeignUptoSaid : Prop := craftForeignUptoRow.holds Tryz.pinned (OpenSpec.upto craftForeignSpec)

/-- 'alidadelaw18.CraftFine', WHERE WHAT IT READS IS OF BULK AT MOST 1048576: true; the input reads as it did. -/
def craftFineUptoRow : OpenClaim := { program := "ytoocjipllmkjcaagreat", sum := "f8a0bef206d3f79437b3215bdc38aae8c41a92337062d492dfc9bb6b04cd3f3e", func := "alidade/alidadelaw18.CraftFine", spec := "craftFine", inPlace := ["internal/bytealg.IndexByteString", "math/bits.Add64"], unfollowed := true, recurses := true, named := ["math/bits.divideError", "math/bits.overflowError"], plainKeys := false, apart := false, narrowed := true }
def CraftFineUptoSaid : Prop := craftFineUptoRow.holds Tryz.pinned (OpenSpec.upto craftFineSpec)

/-- 'alidadetop.WholeEnters', WHERE WHAT IT READS IS OF BULK AT MOST 1048576: true; the input reads as it did. -/
def wholeEntersUptoRow : OpenClaim := { program := "ytoocjipllmkjcaagreat", sum := "f8a0bef206d3f79437b3215bdc38aae8c41a92337062d492dfc9bb6b04cd3f3e", func := "alidade/alidadetop.WholeEnters", spec := "wholeEnters", inPlace := ["internal/bytealg.IndexByteString", "math/bits.Add64"], unfollowed := true, recurses := true, named := ["math/bits.divideError", "math/bits.overflowError"], plainKeys := false, apart := false, narrowed := true }
def WholeEntersUptoSaid : Prop := wholeEntersUptoRow.holds Tryz.pinned (OpenSpec.upto wholeEntersSpec)

end Rows
end Go.Proofs.YtoocjipllmkjcaaGreat
