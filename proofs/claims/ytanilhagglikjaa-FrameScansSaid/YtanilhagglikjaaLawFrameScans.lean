/- The row of 'FrameScans', out of the walk that stands in the texts imported: the statement as it is given, no condition more. -/
import Derived.Test.YtanilhagglikjaaRows
import Derived.ProofKit
import Derived.OpenShut
import Derived.ShutString
import Derived.Test.YtanilhagglikjaaAbTwo
import Derived.Test.YtanilhagglikjaaFsG
import Derived.Test.YtanilhagglikjaaHeadF
namespace Go.Proofs.Ytanilhagglikjaa
namespace LawFrameScans
open Go.ChangeShapes Go.WideShapes Go.ChangeAt Go.RowKit Go.Ab
open Go.ChangeMaps (open_string shut_string)
set_option linter.unusedVariables false
theorem own : ownKnob Try.prog.godebug = none := by kernel_rfl
theorem laid : laidOutB Try.prog = true := laid_is
def Walk : Prop := ∀ (a0 : ByteArray) (wa0 : a0.size ≤ maxLen) (w : World), Calls Try.prog 6 #[.string a0] w fun e w' => e = .returned (.bool true) ∧ RowKit.Below w.heap.size w w'
set_option maxRecDepth 100000 in
theorem lifted (walk : Walk) (os : Os) (started : os.Started) (H : Type) (enc : TypeId × Value → H) :
    ReturnsInHanded {} Try.checked os 6 .any (Rows.frameScansSpec.pre6 enc Try.prog Try.f6 Rows.frameScansRow.domain false) (Rows.frameScansSpec.post enc Try.prog Try.f6 false true false false) := by
  refine returnsInHanded_of_change (C := Try.checked) own started (by kernel_rfl) Try.func6
    (ChangeSpec.witness6 (enc := enc) (C := Try.checked) false ⟨#[], #[.string ⟨#[]⟩], []⟩ 8 (by kernel_rfl) (by kernel_rfl) (by kernel_rfl) (by kernel_rfl)) ?_
  intro W base args ds gs before hval0 hW hcnd _
  have hval : ∀ (j : Nat) t v, Try.f6.params[j]? = some t → args[j]? = some v → Value.okWide Try.prog W .any base t v := hval0
  have hW' := hW
  obtain ⟨p, q, hA0, hV, rfl, hfz, hnd⟩ := hW
  have hA : DataW.TrodAll enc Try.prog W 0 (fun _ => true) true Try.f6.params.toList args.toList ds p := hA0
  rw [Try.params6] at hA hval
  obtain ⟨v0, vs0, d0, ds0, p0, q0, hargs, rfl, rfl, h0, r0⟩ := trodAll_cons hA
  obtain ⟨rfl, rfl, rfl⟩ := trodAll_nil r0
  obtain rfl : args = #[v0] := by cases args; simp_all
  obtain ⟨rfl, rfl⟩ := trodVars_none hV
  have k0 := h0
  obtain ⟨a0, rfl, hd0, rfl, wa0⟩ := open_string Try.underlying9 (hval 0 9 v0 rfl rfl) h0
  clear hA0 hval0
  refine (walk a0 wa0 W ).mono fun e W' ⟨he, hb⟩ => ?_
  subst he
  exact ⟨_, rfl, ⟨_, _, _, [], [], [], hW', (trodAll_cons_mk (shut_bool Try.underlying4 _) trodAll_mk0), (trodAll_cons_mk (Below.trod laid (by kernel_rfl) (of_decide_eq_true (by kernel_rfl)) k0 hb (by simp)) trodAll_mk0), rfl, hb.frame _, fun h => by cases h⟩⟩
theorem named_is : Try.prog.funcNamed Rows.frameScansRow.func = some 6 := by kernel_rfl
theorem inPlace_is : (Rows.frameScansRow.inPlace == Try.prog.inPlace 6) = true := by kernel_rfl
theorem unfollowed_is : (Rows.frameScansRow.unfollowed == Try.prog.unfollowed 6) = true := by kernel_rfl
theorem recurses_is : (Rows.frameScansRow.recurses == Try.prog.recurses 6) = true := by kernel_rfl
theorem vars_is : (Rows.frameScansRow.named == Try.prog.varsNamed 6) = true := by kernel_rfl
theorem closed : joinedFacts Try.prog 6 Try.f6 Rows.frameScansSpec Rows.frameScansRow = true := by
  unfold joinedFacts
  rw [laid_is, rowed_is, inPlace_is, unfollowed_is, recurses_is, vars_is, plainKeys_is, stopsHeard_is, mayEnter_is, liftsFinal_is, make_is]
  kernel_rfl
theorem instance_is : Try.f6.isInstance Try.prog Rows.frameScansRow.origin Rows.frameScansRow.targs := of_decide_eq_true (by kernel_rfl)
theorem wrapper_is : Try.f6.isWrapper Try.prog Rows.frameScansRow.wrapper Rows.frameScansRow.mainSum := by unfold Func.isWrapper; first | (rw [if_pos (by decide +kernel)]; kernel_rfl) | (rw [if_neg (by decide +kernel)]; exact ⟨rfl, rfl⟩)
theorem over (walk : Walk) : Rows.frameScansRow.holds Try.pinned (OpenSpec.ofChange Rows.frameScansSpec) :=
  OpenClaim.holds_of_wide 6 Try.f6 rfl rfl rfl rfl rfl rfl rfl ⟨rfl, rfl, rfl, rfl, rfl⟩ rfl rfl rfl rfl rfl named_is Try.func6 closed instance_is wrapper_is
    (fun os started H enc _ => lifted walk os started H enc)
end LawFrameScans
theorem FrameScans_holds : Rows.FrameScansSaid := LawFrameScans.over fun a0 _ w => Go.Ab.FrameScans_calls a0 w
end Go.Proofs.Ytanilhagglikjaa
