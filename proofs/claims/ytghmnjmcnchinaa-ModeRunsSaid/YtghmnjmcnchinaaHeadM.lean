/- A part of the proof of 'ModeRuns': lemmas, no statement of their own; no condition. -/
import Derived.Test.YtghmnjmcnchinaaRows
import Derived.ProofKit
import Derived.Test.YtghmnjmcnchinaaHK
/- The words at the head of the translation, as the kernel reads them fast; no statement, no condition. -/
namespace Go.Proofs.Ytghmnjmcnchinaa
def headNats : List Nat := [104, 97, 114, 110, 101, 115, 115, 32, 49, 55, 50, 55, 48, 98, 97, 101, 55, 99, 97, 53, 50, 102, 99, 56, 57, 55, 53, 53, 56, 49, 97, 102, 100, 52, 98, 50, 56, 55, 55, 50, 100, 52, 98, 55, 97, 101, 102, 52, 100, 100, 53, 98, 48, 50, 98, 57, 55, 50, 101, 98, 53, 53, 52, 53, 54, 102, 52, 54, 98, 52, 56, 102, 32, 99, 117, 116, 32, 97, 116, 32, 97, 108, 105, 100, 97, 100, 101, 47, 97, 108, 105, 100, 97, 100, 101, 108, 97, 119, 49, 53, 46, 77, 111, 100, 101, 78, 101, 120, 116, 32, 97, 108, 105, 100, 97, 100, 101, 47, 97, 108, 105, 100, 97, 100, 101, 108, 97, 119, 49, 53, 46, 77, 111, 100, 101, 82, 117, 110, 115, 32, 97, 108, 105, 100, 97, 100, 101, 47, 97, 108, 105, 100, 97, 100, 101, 108, 97, 119, 49, 53, 46, 77, 111, 100, 101, 70, 105, 110, 101, 32, 97, 108, 105, 100, 97, 100, 101, 47, 97, 108, 105, 100, 97, 100, 101, 108, 97, 119, 49, 53, 46, 77, 111, 100, 101, 83, 97, 102, 101, 32, 97, 108, 105, 100, 97, 100, 101, 47, 97, 108, 105, 100, 97, 100, 101, 108, 97, 119, 49, 53, 46, 77, 111, 100, 101, 83, 116, 101, 112, 115]
theorem head1 : Try.prog.initOrder = "harness 17270bae7ca52fc8975581afd4b28772d4b7aef4dd5b02b972eb55456f46b48f cut at alidade/alidadelaw15.ModeNext alidade/alidadelaw15.ModeRuns alidade/alidadelaw15.ModeFine alidade/alidadelaw15.ModeSafe alidade/alidadelaw15.ModeSteps" := by kernel_rfl
theorem head2 : "harness 17270bae7ca52fc8975581afd4b28772d4b7aef4dd5b02b972eb55456f46b48f cut at alidade/alidadelaw15.ModeNext alidade/alidadelaw15.ModeRuns alidade/alidadelaw15.ModeFine alidade/alidadelaw15.ModeSafe alidade/alidadelaw15.ModeSteps" = String.ofList (headNats.map Char.ofNat) := by kernel_rfl
theorem headWords : wordsSigns Try.prog.initOrder.toList = wordsSigns (headNats.map Char.ofNat) := by rw [head1, head2, String.toList_ofList]
theorem headIs : behindMainWord (wordsSigns (headNats.map Char.ofNat)) = "cut".toList :: (behindMainWord (wordsSigns (headNats.map Char.ofNat))).tail := by kernel_rfl
theorem headEx : ∃ rest, behindMainWord (wordsSigns Try.prog.initOrder.toList) = "cut".toList :: rest := ⟨_, by rw [headWords]; exact headIs⟩
theorem laysLater_is : Try.prog.laysLater = false := by kernel_rfl
theorem bearsReflect_is : Try.prog.bearsReflect = false := by kernel_rfl
theorem doorFits_is : Try.prog.doorFits [] = true := by kernel_rfl
theorem mayEnter_is : Try.prog.mayEnter = true := by
  obtain ⟨_, h⟩ := headEx
  exact Go.Ab.mayEnter_of h laysLater_is bearsReflect_is doorFits_is
theorem liftsFinal_is : Try.prog.liftsFinal = false := by
  obtain ⟨_, h⟩ := headEx
  exact Go.Ab.liftsFinal_of h
theorem make_is : Try.prog.make = some .cut := by
  obtain ⟨_, h⟩ := headEx
  exact Go.Ab.make_of h
theorem laid_is : laidOutB Try.prog = true := by kernel_rfl
theorem rowed_is : mapsRowed Try.prog = true := by kernel_rfl
theorem plainKeys_is : Try.prog.plainKeys = false := by kernel_rfl
theorem stopsHeard_is : Try.prog.stopsHeard = true := by kernel_rfl
end Go.Proofs.Ytghmnjmcnchinaa
