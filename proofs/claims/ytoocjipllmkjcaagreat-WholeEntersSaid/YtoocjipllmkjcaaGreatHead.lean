/- A part of the proof of 'CraftHolds': lemmas, no statement of their own; no condition. -/
import Derived.Test.YtoocjipllmkjcaaGreatRows
import Derived.ProofKit
import Derived.Test.YtoocjipllmkjcaaGreatGCrQ
/- The words at the head of the translation, as the kernel reads them fast; no statement, no condition. -/
namespace Go.Proofs.YtoocjipllmkjcaaGreat
def headNats : List Nat := [104, 97, 114, 110, 101, 115, 115, 32, 100, 99, 53, 100, 57, 49, 48, 99, 99, 52, 101, 57, 53, 52, 97, 56, 54, 53, 98, 97, 101, 52, 57, 53, 51, 56, 51, 100, 48, 56, 48, 54, 100, 101, 48, 52, 55, 53, 97, 99, 53, 49, 100, 98, 50, 49, 50, 52, 54, 97, 55, 97, 99, 49, 51, 52, 53, 48, 55, 48, 56, 55, 100, 49, 32, 99, 117, 116, 32, 97, 116, 32, 97, 108, 105, 100, 97, 100, 101, 47, 97, 108, 105, 100, 97, 100, 101, 116, 111, 112, 46, 87, 104, 111, 108, 101, 77, 111, 100, 101, 115, 32, 97, 108, 105, 100, 97, 100, 101, 47, 97, 108, 105, 100, 97, 100, 101, 116, 111, 112, 46, 87, 104, 111, 108, 101, 71, 97, 112, 115, 32, 97, 108, 105, 100, 97, 100, 101, 47, 97, 108, 105, 100, 97, 100, 101, 116, 111, 112, 46, 87, 104, 111, 108, 101, 68, 105, 112, 111, 108, 101, 115, 32, 97, 108, 105, 100, 97, 100, 101, 47, 97, 108, 105, 100, 97, 100, 101, 108, 97, 119, 49, 52, 46, 70, 105, 108, 116, 101, 114, 77, 101, 101, 116, 115, 32, 97, 108, 105, 100, 97, 100, 101, 47, 97, 108, 105, 100, 97, 100, 101, 108, 97, 119, 49, 56, 46, 67, 114, 97, 102, 116, 83, 116, 101, 112, 115, 32, 97, 108, 105, 100, 97, 100, 101, 47, 97, 108, 105, 100, 97, 100, 101, 108, 97, 119, 49, 56, 46, 67, 114, 97, 102, 116, 82, 117, 110, 115, 32, 97, 108, 105, 100, 97, 100, 101, 47, 97, 108, 105, 100, 97, 100, 101, 108, 97, 119, 49, 56, 46, 67, 114, 97, 102, 116, 72, 111, 108, 100, 115, 32, 97, 108, 105, 100, 97, 100, 101, 47, 97, 108, 105, 100, 97, 100, 101, 108, 97, 119, 49, 56, 46, 67, 114, 97, 102, 116, 70, 111, 114, 101, 105, 103, 110, 32, 97, 108, 105, 100, 97, 100, 101, 47, 97, 108, 105, 100, 97, 100, 101, 108, 97, 119, 49, 56, 46, 67, 114, 97, 102, 116, 70, 105, 110, 101, 32, 97, 108, 105, 100, 97, 100, 101, 47, 97, 108, 105, 100, 97, 100, 101, 116, 111, 112, 46, 87, 104, 111, 108, 101, 69, 110, 116, 101, 114, 115]
theorem head1 : Tryz.prog.initOrder = "harness dc5d910cc4e954a865bae495383d0806de0475ac51db21246a7ac134507087d1 cut at alidade/alidadetop.WholeModes alidade/alidadetop.WholeGaps alidade/alidadetop.WholeDipoles alidade/alidadelaw14.FilterMeets alidade/alidadelaw18.CraftSteps alidade/alidadelaw18.CraftRuns alidade/alidadelaw18.CraftHolds alidade/alidadelaw18.CraftForeign alidade/alidadelaw18.CraftFine alidade/alidadetop.WholeEnters" := by kernel_rfl
theorem head2 : "harness dc5d910cc4e954a865bae495383d0806de0475ac51db21246a7ac134507087d1 cut at alidade/alidadetop.WholeModes alidade/alidadetop.WholeGaps alidade/alidadetop.WholeDipoles alidade/alidadelaw14.FilterMeets alidade/alidadelaw18.CraftSteps alidade/alidadelaw18.CraftRuns alidade/alidadelaw18.CraftHolds alidade/alidadelaw18.CraftForeign alidade/alidadelaw18.CraftFine alidade/alidadetop.WholeEnters" = String.ofList (headNats.map Char.ofNat) := by kernel_rfl
theorem headWords : wordsSigns Tryz.prog.initOrder.toList = wordsSigns (headNats.map Char.ofNat) := by rw [head1, head2, String.toList_ofList]
theorem headIs : behindMainWord (wordsSigns (headNats.map Char.ofNat)) = "cut".toList :: (behindMainWord (wordsSigns (headNats.map Char.ofNat))).tail := by kernel_rfl
theorem headEx : ∃ rest, behindMainWord (wordsSigns Tryz.prog.initOrder.toList) = "cut".toList :: rest := ⟨_, by rw [headWords]; exact headIs⟩
theorem laysLater_is : Tryz.prog.laysLater = false := by kernel_rfl
theorem bearsReflect_is : Tryz.prog.bearsReflect = false := by kernel_rfl
theorem doorFits_is : Tryz.prog.doorFits [] = true := by kernel_rfl
theorem mayEnter_is : Tryz.prog.mayEnter = true := by
  obtain ⟨_, h⟩ := headEx
  exact Go.Ab.mayEnter_of h laysLater_is bearsReflect_is doorFits_is
theorem liftsFinal_is : Tryz.prog.liftsFinal = false := by
  obtain ⟨_, h⟩ := headEx
  exact Go.Ab.liftsFinal_of h
theorem make_is : Tryz.prog.make = some .cut := by
  obtain ⟨_, h⟩ := headEx
  exact Go.Ab.make_of h
theorem laid_is : laidOutB Tryz.prog = true := by kernel_rfl
theorem rowed_is : mapsRowed Tryz.prog = true := by kernel_rfl
theorem plainKeys_is : Tryz.prog.plainKeys = false := by kernel_rfl
theorem stopsHeard_is : Tryz.prog.stopsHeard = true := by kernel_rfl
end Go.Proofs.YtoocjipllmkjcaaGreat
