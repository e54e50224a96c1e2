/- A part of the proof of 'FilterEven': lemmas, no statement of their own; no condition. -/
import Derived.Test.YtccgjhdpiaglaaaRows
import Derived.ProofKit
import Derived.Test.YtccgjhdpiaglaaaHK
/- The words at the head of the translation, as the kernel reads them fast; no statement, no condition. -/
namespace Go.Proofs.Ytccgjhdpiaglaaa
def headNats : List Nat := [104, 97, 114, 110, 101, 115, 115, 32, 99, 98, 100, 57, 53, 97, 99, 49, 101, 100, 97, 49, 100, 48, 101, 53, 52, 49, 52, 53, 48, 55, 99, 49, 52, 57, 99, 52, 54, 55, 48, 99, 56, 55, 55, 100, 102, 102, 57, 54, 50, 54, 56, 50, 53, 53, 56, 51, 56, 50, 53, 48, 97, 57, 51, 101, 57, 102, 52, 98, 100, 49, 51, 101, 32, 99, 117, 116, 32, 97, 116, 32, 97, 108, 105, 100, 97, 100, 101, 47, 97, 108, 105, 100, 97, 100, 101, 108, 97, 119, 48, 55, 46, 67, 108, 111, 99, 107, 84, 117, 114, 110, 115, 32, 97, 108, 105, 100, 97, 100, 101, 47, 97, 108, 105, 100, 97, 100, 101, 108, 97, 119, 48, 51, 46, 86, 101, 99, 85, 110, 105, 116, 115, 32, 97, 108, 105, 100, 97, 100, 101, 47, 97, 108, 105, 100, 97, 100, 101, 108, 97, 119, 48, 51, 46, 86, 101, 99, 80, 97, 114, 116, 115, 32, 97, 108, 105, 100, 97, 100, 101, 47, 97, 108, 105, 100, 97, 100, 101, 108, 97, 119, 48, 54, 46, 77, 97, 116, 83, 111, 108, 118, 101, 32, 97, 108, 105, 100, 97, 100, 101, 47, 97, 108, 105, 100, 97, 100, 101, 108, 97, 119, 48, 54, 46, 77, 97, 116, 83, 117, 109, 115, 32, 97, 108, 105, 100, 97, 100, 101, 47, 97, 108, 105, 100, 97, 100, 101, 108, 97, 119, 48, 52, 46, 81, 117, 97, 116, 84, 117, 114, 110, 32, 97, 108, 105, 100, 97, 100, 101, 47, 97, 108, 105, 100, 97, 100, 101, 108, 97, 119, 48, 53, 46, 84, 114, 105, 97, 100, 66, 111, 116, 104, 32, 97, 108, 105, 100, 97, 100, 101, 47, 97, 108, 105, 100, 97, 100, 101, 108, 97, 119, 49, 52, 46, 70, 105, 108, 116, 101, 114, 80, 111, 105, 110, 116, 115, 32, 97, 108, 105, 100, 97, 100, 101, 47, 97, 108, 105, 100, 97, 100, 101, 108, 97, 119, 49, 52, 46, 70, 105, 108, 116, 101, 114, 77, 111, 118, 101, 115, 32, 97, 108, 105, 100, 97, 100, 101, 47, 97, 108, 105, 100, 97, 100, 101, 108, 97, 119, 49, 52, 46, 70, 105, 108, 116, 101, 114, 69, 118, 101, 110, 32, 97, 108, 105, 100, 97, 100, 101, 47, 97, 108, 105, 100, 97, 100, 101, 108, 97, 119, 49, 52, 46, 70, 105, 108, 116, 101, 114, 70, 105, 110, 100, 115]
theorem head1 : Try.prog.initOrder = "harness cbd95ac1eda1d0e5414507c149c4670c877dff96268255838250a93e9f4bd13e cut at alidade/alidadelaw07.ClockTurns alidade/alidadelaw03.VecUnits alidade/alidadelaw03.VecParts alidade/alidadelaw06.MatSolve alidade/alidadelaw06.MatSums alidade/alidadelaw04.QuatTurn alidade/alidadelaw05.TriadBoth alidade/alidadelaw14.FilterPoints alidade/alidadelaw14.FilterMoves alidade/alidadelaw14.FilterEven alidade/alidadelaw14.FilterFinds" := by kernel_rfl
theorem head2 : "harness cbd95ac1eda1d0e5414507c149c4670c877dff96268255838250a93e9f4bd13e cut at alidade/alidadelaw07.ClockTurns alidade/alidadelaw03.VecUnits alidade/alidadelaw03.VecParts alidade/alidadelaw06.MatSolve alidade/alidadelaw06.MatSums alidade/alidadelaw04.QuatTurn alidade/alidadelaw05.TriadBoth alidade/alidadelaw14.FilterPoints alidade/alidadelaw14.FilterMoves alidade/alidadelaw14.FilterEven alidade/alidadelaw14.FilterFinds" = String.ofList (headNats.map Char.ofNat) := by kernel_rfl
theorem headWords : wordsSigns Try.prog.initOrder.toList = wordsSigns (headNats.map Char.ofNat) := by rw [head1, head2, String.toList_ofList]
theorem headIs : behindMainWord (wordsSigns (headNats.map Char.ofNat)) = "cut".toList :: (behindMainWord (wordsSigns (headNats.map Char.ofNat))).tail := by kernel_rfl
theorem headEx : ∃ rest, behindMainWord (wordsSigns Try.prog.initOrder.toList) = "cut".toList :: rest := ⟨_, by rw [headWords]; exact headIs⟩
theorem laysLater_is : Try.prog.laysLater = false := by kernel_rfl
theorem bearsReflect_is : Try.prog.bearsReflect = false := by kernel_rfl
theorem doorFits_is : Try.prog.doorFits [] = true := by kernel_rfl
theorem mayEnter_is : Try.prog.mayEnter = true := by
  obtain ⟨_, h⟩ := headEx
  exact Go.Ab.mayEnter_of h laysLater_is bearsReflect_is doorFits_is
theorem liftsFinal_is : Try.prog.liftsFinal = false := by
  obtain ⟨_, h⟩ := headEx
  exact Go.Ab.liftsFinal_of h
theorem make_is : Try.prog.make = some .cut := by
  obtain ⟨_, h⟩ := headEx
  exact Go.Ab.make_of h
theorem laid_is : laidOutB Try.prog = true := by kernel_rfl
theorem rowed_is : mapsRowed Try.prog = true := by kernel_rfl
theorem plainKeys_is : Try.prog.plainKeys = true := by kernel_rfl
theorem stopsHeard_is : Try.prog.stopsHeard = true := by kernel_rfl
end Go.Proofs.Ytccgjhdpiaglaaa
