/-
  No cell of these rows narrows 'for every input' (looked for: loops, veiled, ifaces, maps, wideKeys, modest, calm, conditions, laid).
  DERIVED. THE GIVEN ROWS OF THIS SEAT. 5 by the template 'for every input the law returns true; each argument reads behind the call as it read before'; 0 by the template 'total and deterministic' (their statements: YtghmnjmcnchinaaTotals.lean).
  GIVEN WITH THE SEED: the statements are not yours to turn. If you find one false, say at which input.
  Laid BY PROGRAM, IN A SANDBOX (cutbox-rows.mjs): the forced cells as the released guide's own fill.sh prints them over the translation a906e7fe6c39208b… (all of the seat's roots in one cut). By AI agents, Wed Nov 11 2026. No macro, syntax, notation, axiom, sorry.
-/
import Derived.Test.YtghmnjmcnchinaaChecked
import GoSem.Claim
import GoSem.ClaimJoined
import GoSem.ClaimMapViews
import Derived.JoinedTies
import Derived.KernelRfl
namespace Go.Proofs.Ytghmnjmcnchinaa
/- THE CELL 'sum', in the pinned program and in every row, IS THE sha256 OF THE DUMP (.gsa) THAT YtghmnjmcnchinaaProg.lean LOADS. Nothing in Lean hashes anything: it is a label: what it is worth is what the hold of that sum in a sandbox is worth. -/
noncomputable def Try.pinned : Pinned := { name := "ytghmnjmcnchinaa", sum := "a906e7fe6c39208b94d96e4dc0be43320e7b0cd8c5cfcc1481ffacf3852ad4b2", checked := Try.checked }
namespace Rows
def none {H : Type} : Left H := { results := [], args := [] }

/-- 'alidadelaw15.ModeNext': WHATEVER THE INPUT: true; the input reads as it did. -/
def modeNextSpec : ChangeSpec := { name := "modeNext", fn := fun _ => fun
  | [d1, d2] => { results := [.lit (.bool true)], args := [d1, d2] }
  | _ => none }
def modeNextRow : OpenClaim := { program := "ytghmnjmcnchinaa", sum := "a906e7fe6c39208b94d96e4dc0be43320e7b0cd8c5cfcc1481ffacf3852ad4b2", func := "alidade/alidadelaw15.ModeNext", spec := "modeNext", plainKeys := false, apart := false }
def ModeNextSaid : Prop := modeNextRow.holds Try.pinned (OpenSpec.ofChange modeNextSpec)

/-- ITS FALSE NEIGHBOUR: 'it returns false'. Refute it at one input. -/
def modeNextWrong : ChangeSpec := { name := "modeNext", fn := fun _ => fun
  | [d1, d2] => { results := [.lit (.bool false)], args := [d1, d2] }
  | _ => none }
def ModeNextWrongFalsely : Prop := modeNextRow.holds Try.pinned (OpenSpec.ofChange modeNextWrong)

/-- 'alidadelaw15.ModeRuns': WHATEVER THE INPUT: true; the input reads as it did. -/
def modeRunsSpec : ChangeSpec := { name := "modeRuns", fn := fun _ => fun
  | [d] => { results := [.lit (.bool true)], args := [d] }
  | _ => none }
def modeRunsRow : OpenClaim := { program := "ytghmnjmcnchinaa", sum := "a906e7fe6c39208b94d96e4dc0be43320e7b0cd8c5cfcc1481ffacf3852ad4b2", func := "alidade/alidadelaw15.ModeRuns", spec := "modeRuns", plainKeys := false, apart := false }
def ModeRunsSaid : Prop := modeRunsRow.holds Try.pinned (OpenSpec.ofChange modeRunsSpec)

/-- ITS FALSE NEIGHBOUR: 'it returns false'. Refute it at one input. -/
def modeRunsWrong : ChangeSpec := { name := "modeRuns", fn := fun _ => fun
  | [d] => { results := [.lit (.bool false)], args := [d] }
  | _ => none }
def ModeRunsWrongFalsely : Prop := modeRunsRow.holds Try.pinned (OpenSpec.ofChange modeRunsWrong)

/-- 'alidadelaw15.ModeFine': WHATEVER THE INPUT: true; the input reads as it did. -/
def modeFineSpec : ChangeSpec := { name := "modeFine", fn := fun _ => fun
  | [d1, d2] => { results := [.lit (.bool true)], args := [d1, d2] }
  | _ => none }
def modeFineRow : OpenClaim := { program := "ytghmnjmcnchinaa", sum := "a906e7fe6c39208b94d96e4dc0be43320e7b0cd8c5cfcc1481ffacf3852ad4b2", func := "alidade/alidadelaw15.ModeFine", spec := "modeFine", plainKeys := false, apart := false }
def ModeFineSaid : Prop := modeFineRow.holds Try.pinned (OpenSpec.ofChange modeFineSpec)

/-- ITS FALSE NEIGHBOUR: 'it returns false'. Refute it at one input. -/
def modeFineWrong : ChangeSpec := { name := "modeFine", fn := fun _ => fun
  | [d1, d2] => { results := [.lit (.bool false)], args := [d1, d2] }
  | _ => none }
def ModeFineWrongFalsely : Prop := modeFineRow.holds Try.pinned (OpenSpec.ofChange modeFineWrong)

/-- 'alidadelaw15.ModeSafe': WHATEVER THE INPUT: true; the input reads as it did. -/
def modeSafeSpec : ChangeSpec := { name := "modeSafe", fn := fun _ => fun
  | [d1, d2] => { results := [.lit (.bool true)], args := [d1, d2] }
  | _ => none }
def modeSafeRow : OpenClaim := { program := "ytghmnjmcnchinaa", sum := "a906e7fe6c39208b94d96e4dc0be43320e7b0cd8c5cfcc1481ffacf3852ad4b2", func := "alidade/alidadelaw15.ModeSafe", spec := "modeSafe", plainKeys := false, apart := false }
def ModeSafeSaid : Prop := modeSafeRow.holds Try.pinned (OpenSpec.ofChange modeSafeSpec)

/-- ITS FALSE NEIGHBOUR: 'it returns false'. Refute it at one input. -/
def modeSafeWrong : ChangeSpec := { name := "modeSafe", fn := fun _ => fun
  | [d1, d2] => { results := [.lit (.bool false)], args := [d1, d2] }
  | _ => none }
def ModeSafeWrongFalsely : Prop := modeSafeRow.holds Try.pinned (OpenSpec.ofChange modeSafeWrong)

/-- 'alidadelaw15.ModeSteps': WHATEVER THE INPUT: true; the input reads as it did. -/
def modeStepsSpec : ChangeSpec := { name := "modeSteps", fn := fun _ => fun
  | [d1, d2] => { results := [.lit (.bool true)], args := [d1, d2] }
  | _ => none }
def modeStepsRow : OpenClaim := { program := "ytghmnjmcnchinaa", sum := "a906e7fe6c39208b94d96e4dc0be43320e7b0cd8c5cfcc1481ffacf3852ad4b2", func := "alidade/alidadelaw15.ModeSteps", spec := "modeSteps", plainKeys := false, apart := false }
def ModeStepsSaid : Prop := modeStepsRow.holds Try.pinned (OpenSpec.ofChange modeStepsSpec)

/-- ITS FALSE NEIGHBOUR: 'it returns false'. Refute it at one input. -/
def modeStepsWrong : ChangeSpec := { name := "modeSteps", fn := fun _ => fun
  | [d1, d2] => { results := [.lit (.bool false)], args := [d1, d2] }
  | _ => none }
def ModeStepsWrongFalsely : Prop := modeStepsRow.holds Try.pinned (OpenSpec.ofChange modeStepsWrong)

/- THE SECOND FORM. 'bulk': how many values and letters a reading holds, each counted each time it is reached (what is shared counts as often as it is met; a slice's spare places count too). A statement '..UptoSaid' is the law's where the arguments, and the package variables that the reading takes, are together of bulk at most 1048576: NARROWER than '..Said'. Prove '..Said' where nothing that the law and all that it calls make is longer than what came in: it says more and counts as full. Else prove '..UptoSaid'. A law counts once. -/
mutual
def uptoBulk {H : Type} : DataW H → Nat
  | .lit (.string bytes) => bytes.length + 1
  | .lit _ => 1
  | .nil => 1
  | .ptr d => uptoBulk d + 1
  | .slice elems spare => uptoBulkAll elems + uptoBulkAll spare + 1
  | .agg parts => uptoBulkAll parts + 1
  | .iface _ d => uptoBulk d + 1
  | .map entries => uptoBulkEntries entries + 1
  | .held _ => 1
def uptoBulkAll {H : Type} : List (DataW H) → Nat
  | [] => 0
  | d :: r => uptoBulk d + uptoBulkAll r
def uptoBulkEntries {H : Type} : List (Lit × DataW H) → Nat
  | [] => 0
  | x :: r => uptoBulkEntry x + uptoBulkEntries r
def uptoBulkEntry {H : Type} : Lit × DataW H → Nat
  | (.string bytes, d) => bytes.length + uptoBulk d + 1
  | (_, d) => uptoBulk d + 1
 end
def uptoSmall : (H : Type) → List (DataW H) → Bool := fun _ ds => decide (uptoBulkAll ds ≤ 1048576)
def OpenSpec.upto (s : _root_.Go.ChangeSpec) : _root_.Go.OpenSpec := { _root_.Go.OpenSpec.ofChange s with cond := some uptoSmall }

/-- 'alidadelaw15.ModeNext', WHERE WHAT IT READS IS OF BULK AT MOST 1048576: true; the input reads as it did. -/
def modeNextUptoRow : OpenClaim := { program := "ytghmnjmcnchinaa", sum := "a906e7fe6c39208b94d96e4dc0be43320e7b0cd8c5cfcc1481ffacf3852ad4b2", func := "alidade/alidadelaw15.ModeNext", spec := "modeNext", plainKeys := false, apart := false, narrowed := true }
def ModeNextUptoSaid : Prop := modeNextUptoRow.holds Try.pinned (OpenSpec.upto modeNextSpec)

/-- 'alidadelaw15.ModeRuns', WHERE WHAT IT READS IS OF BULK AT MOST 1048576: true; the input reads as it did. -/
def modeRunsUptoRow : OpenClaim := { program := "ytghmnjmcnchinaa", sum := "a906e7fe6c39208b94d96e4dc0be43320e7b0cd8c5cfcc1481ffacf3852ad4b2", func := "alidade/alidadelaw15.ModeRuns", spec := "modeRuns", plainKeys := false, apart := false, narrowed := true }
def ModeRunsUptoSaid : Prop := modeRunsUptoRow.holds Try.pinned (OpenSpec.upto modeRunsSpec)

/-- 'alidadelaw15.ModeFine', WHERE WHAT IT READS IS OF BULK AT MOST 1048576: true; the input reads as it did. -/
def modeFineUptoRow : OpenClaim := { program := "ytghmnjmcnchinaa", sum := "a906e7fe6c39208b94d96e4dc0be43320e7b0cd8c5cfcc1481ffacf3852ad4b2", func := "alidade/alidadelaw15.ModeFine", spec := "modeFine", plainKeys := false, apart := false, narrowed := true }
def ModeFineUptoSaid : Prop := modeFineUptoRow.holds Try.pinned (OpenSpec.upto modeFineSpec)

/-- 'alidadelaw15.ModeSafe', WHERE WHAT IT READS IS OF BULK AT MOST 1048576: true; the input reads as it did. -/
def modeSafeUptoRow : OpenClaim := { program := "ytghmnjmcnchinaa", sum := "a906e7fe6c39208b94d96e4dc0be43320e7b0cd8c5cfcc1481ffacf3852ad4b2", func := "alidade/alidadelaw15.ModeSafe", spec := "modeSafe", plainKeys := false, apart := false, narrowed := true }
def ModeSafeUptoSaid : Prop := modeSafeUptoRow.holds Try.pinned (OpenSpec.upto modeSafeSpec)

/-- 'alidadelaw15.ModeSteps', WHERE WHAT IT READS IS OF BULK AT MOST 1048576: true; the input reads as it did. -/
def modeStepsUptoRow : OpenClaim := { program := "ytghmnjmcnchinaa", sum := "a906e7fe6c39208b94d96e4dc0be43320e7b0cd8c5cfcc1481ffacf3852ad4b2", func := "alidade/alidadelaw15.ModeSteps", spec := "modeSteps", plainKeys := false, apart := false, narrowed := true }
def ModeStepsUptoSaid : Prop := modeStepsUptoRow.holds Try.pinned (OpenSpec.upto modeStepsSpec)

end Rows
end Go.Proofs.Ytghmnjmcnchinaa
