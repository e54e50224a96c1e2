/- A part of the proof of 'FrameTurned': lemmas, no statement of their own; no condition. -/
import Derived.Test.YtanilhagglikjaaRows
import Derived.ProofKit
import Derived.Test.YtanilhagglikjaaHK
/- The words at the head of the translation, as the kernel reads them fast; no statement, no condition. -/
namespace Go.Proofs.Ytanilhagglikjaa
def headNats : List Nat := [104, 97, 114, 110, 101, 115, 115, 32, 101, 98, 100, 54, 49, 48, 53, 55, 102, 53, 53, 100, 101, 98, 99, 100, 53, 56, 54, 53, 56, 102, 53, 54, 53, 52, 101, 54, 54, 57, 55, 99, 51, 97, 99, 48, 52, 57, 102, 101, 102, 51, 99, 57, 102, 54, 101, 97, 51, 102, 100, 99, 52, 97, 48, 53, 100, 98, 57, 54, 56, 48, 52, 53, 32, 99, 117, 116, 32, 97, 116, 32, 97, 108, 105, 100, 97, 100, 101, 47, 97, 108, 105, 100, 97, 100, 101, 108, 97, 119, 49, 49, 46, 70, 114, 97, 109, 101, 83, 117, 109, 115, 32, 97, 108, 105, 100, 97, 100, 101, 47, 97, 108, 105, 100, 97, 100, 101, 108, 97, 119, 49, 49, 46, 70, 114, 97, 109, 101, 87, 114, 97, 112, 115, 32, 97, 108, 105, 100, 97, 100, 101, 47, 97, 108, 105, 100, 97, 100, 101, 108, 97, 119, 49, 49, 46, 70, 114, 97, 109, 101, 79, 112, 101, 110, 115, 32, 97, 108, 105, 100, 97, 100, 101, 47, 97, 108, 105, 100, 97, 100, 101, 108, 97, 119, 49, 49, 46, 70, 114, 97, 109, 101, 83, 99, 97, 110, 115, 32, 97, 108, 105, 100, 97, 100, 101, 47, 97, 108, 105, 100, 97, 100, 101, 108, 97, 119, 49, 49, 46, 70, 114, 97, 109, 101, 67, 117, 116, 32, 97, 108, 105, 100, 97, 100, 101, 47, 97, 108, 105, 100, 97, 100, 101, 108, 97, 119, 49, 49, 46, 70, 114, 97, 109, 101, 84, 117, 114, 110, 101, 100]
theorem head1 : Try.prog.initOrder = "harness ebd61057f55debcd58658f5654e6697c3ac049fef3c9f6ea3fdc4a05db968045 cut at alidade/alidadelaw11.FrameSums alidade/alidadelaw11.FrameWraps alidade/alidadelaw11.FrameOpens alidade/alidadelaw11.FrameScans alidade/alidadelaw11.FrameCut alidade/alidadelaw11.FrameTurned" := by kernel_rfl
theorem head2 : "harness ebd61057f55debcd58658f5654e6697c3ac049fef3c9f6ea3fdc4a05db968045 cut at alidade/alidadelaw11.FrameSums alidade/alidadelaw11.FrameWraps alidade/alidadelaw11.FrameOpens alidade/alidadelaw11.FrameScans alidade/alidadelaw11.FrameCut alidade/alidadelaw11.FrameTurned" = String.ofList (headNats.map Char.ofNat) := by kernel_rfl
theorem headWords : wordsSigns Try.prog.initOrder.toList = wordsSigns (headNats.map Char.ofNat) := by rw [head1, head2, String.toList_ofList]
theorem headIs : behindMainWord (wordsSigns (headNats.map Char.ofNat)) = "cut".toList :: (behindMainWord (wordsSigns (headNats.map Char.ofNat))).tail := by kernel_rfl
theorem headEx : ∃ rest, behindMainWord (wordsSigns Try.prog.initOrder.toList) = "cut".toList :: rest := ⟨_, by rw [headWords]; exact headIs⟩
theorem laysLater_is : Try.prog.laysLater = false := by kernel_rfl
theorem bearsReflect_is : Try.prog.bearsReflect = false := by kernel_rfl
theorem doorFits_is : Try.prog.doorFits [] = true := by kernel_rfl
theorem mayEnter_is : Try.prog.mayEnter = true := by
  obtain ⟨_, h⟩ := headEx
  exact Go.Ab.mayEnter_of h laysLater_is bearsReflect_is doorFits_is
theorem liftsFinal_is : Try.prog.liftsFinal = false := by
  obtain ⟨_, h⟩ := headEx
  exact Go.Ab.liftsFinal_of h
theorem make_is : Try.prog.make = some .cut := by
  obtain ⟨_, h⟩ := headEx
  exact Go.Ab.make_of h
theorem laid_is : laidOutB Try.prog = true := by kernel_rfl
theorem rowed_is : mapsRowed Try.prog = true := by kernel_rfl
theorem plainKeys_is : Try.prog.plainKeys = true := by kernel_rfl
theorem stopsHeard_is : Try.prog.stopsHeard = true := by kernel_rfl
end Go.Proofs.Ytanilhagglikjaa
