/- The row of 'FrameWraps', out of the walk that stands in the texts imported: the statement as it is given, no condition more. -/
import Derived.Test.YtanilhagglikjaaRows
import Derived.ProofKit
import Derived.OpenShut
import Derived.ShutString
import Derived.Test.YtanilhagglikjaaAbTwo
import Derived.Test.YtanilhagglikjaaLvFWraps
import Derived.Test.YtanilhagglikjaaHeadF
namespace Go.Proofs.Ytanilhagglikjaa
namespace LawFrameWraps
open Go.ChangeShapes Go.WideShapes Go.ChangeAt Go.RowKit Go.Ab
open Go.ChangeMaps (open_string shut_string)
set_option linter.unusedVariables false
theorem own : ownKnob Try.prog.godebug = none := by kernel_rfl
theorem laid : laidOutB Try.prog = true := laid_is
def Walk : Prop := ∀ (a0_0 : Int) (a0_1 : ByteArray) (wa0_0 : (Lit.int .i64 a0_0).wf = true) (wa0_1 : a0_1.size ≤ maxLen) (w : World), Calls Try.prog 4 #[.agg #[.int .i64 a0_0, .string a0_1]] w fun e w' => e = .returned (.bool true) ∧ RowKit.Below w.heap.size w w'
set_option maxRecDepth 100000 in
theorem lifted (walk : Walk) (os : Os) (started : os.Started) (H : Type) (enc : TypeId × Value → H) :
    ReturnsInHanded {} Try.checked os 4 .any (Rows.frameWrapsSpec.pre6 enc Try.prog Try.f4 Rows.frameWrapsRow.domain false) (Rows.frameWrapsSpec.post enc Try.prog Try.f4 false true false false) := by
  refine returnsInHanded_of_change (C := Try.checked) own started (by kernel_rfl) Try.func4
    (ChangeSpec.witness6 (enc := enc) (C := Try.checked) false ⟨#[], #[.agg #[.int .i64 0, .string ⟨#[]⟩]], []⟩ 8 (by kernel_rfl) (by kernel_rfl) (by kernel_rfl) (by kernel_rfl)) ?_
  intro W base args ds gs before hval0 hW hcnd _
  have hval : ∀ (j : Nat) t v, Try.f4.params[j]? = some t → args[j]? = some v → Value.okWide Try.prog W .any base t v := hval0
  have hW' := hW
  obtain ⟨p, q, hA0, hV, rfl, hfz, hnd⟩ := hW
  have hA : DataW.TrodAll enc Try.prog W 0 (fun _ => true) true Try.f4.params.toList args.toList ds p := hA0
  rw [Try.params4] at hA hval
  obtain ⟨v0, vs0, d0, ds0, p0, q0, hargs, rfl, rfl, h0, r0⟩ := trodAll_cons hA
  obtain ⟨rfl, rfl, rfl⟩ := trodAll_nil r0
  obtain rfl : args = #[v0] := by cases args; simp_all
  obtain ⟨rfl, rfl⟩ := trodVars_none hV
  obtain ⟨rfl, cs0, rfl, hl0⟩ := open_plain (n := 8) (ks := [.int .i64, .string]) (by kernel_rfl) (by kernel_rfl) (hval 0 26 v0 rfl rfl) h0
  obtain ⟨a0_0, ra0_0, rfl, wa0_0, hl0⟩ := hl0
  obtain ⟨a0_1, ra0_1, rfl, wa0_1, hl0⟩ := hl0
  cases hl0
  clear hA0 hval0
  refine (walk a0_0 a0_1 wa0_0 wa0_1 W ).mono fun e W' ⟨he, hb⟩ => ?_
  subst he
  exact ⟨_, rfl, ⟨_, _, _, [], [], [], hW', (trodAll_cons_mk (shut_bool Try.underlying4 _) trodAll_mk0), (trodAll_cons_mk (Below.trod laid (by kernel_rfl) (of_decide_eq_true (by kernel_rfl)) h0 hb (by simp)) trodAll_mk0), rfl, hb.frame _, fun h => by cases h⟩⟩
theorem named_is : Try.prog.funcNamed Rows.frameWrapsRow.func = some 4 := by kernel_rfl
theorem inPlace_is : (Rows.frameWrapsRow.inPlace == Try.prog.inPlace 4) = true := by kernel_rfl
theorem unfollowed_is : (Rows.frameWrapsRow.unfollowed == Try.prog.unfollowed 4) = true := by kernel_rfl
theorem recurses_is : (Rows.frameWrapsRow.recurses == Try.prog.recurses 4) = true := by kernel_rfl
theorem vars_is : (Rows.frameWrapsRow.named == Try.prog.varsNamed 4) = true := by kernel_rfl
theorem closed : joinedFacts Try.prog 4 Try.f4 Rows.frameWrapsSpec Rows.frameWrapsRow = true := by
  unfold joinedFacts
  rw [laid_is, rowed_is, inPlace_is, unfollowed_is, recurses_is, vars_is, plainKeys_is, stopsHeard_is, mayEnter_is, liftsFinal_is, make_is]
  kernel_rfl
theorem instance_is : Try.f4.isInstance Try.prog Rows.frameWrapsRow.origin Rows.frameWrapsRow.targs := of_decide_eq_true (by kernel_rfl)
theorem wrapper_is : Try.f4.isWrapper Try.prog Rows.frameWrapsRow.wrapper Rows.frameWrapsRow.mainSum := by unfold Func.isWrapper; first | (rw [if_pos (by decide +kernel)]; kernel_rfl) | (rw [if_neg (by decide +kernel)]; exact ⟨rfl, rfl⟩)
theorem over (walk : Walk) : Rows.frameWrapsRow.holds Try.pinned (OpenSpec.ofChange Rows.frameWrapsSpec) :=
  OpenClaim.holds_of_wide 4 Try.f4 rfl rfl rfl rfl rfl rfl rfl ⟨rfl, rfl, rfl, rfl, rfl⟩ rfl rfl rfl rfl rfl named_is Try.func4 closed instance_is wrapper_is
    (fun os started H enc _ => lifted walk os started H enc)
end LawFrameWraps
theorem FrameWraps_holds : Rows.FrameWrapsSaid := LawFrameWraps.over fun a0_0 a0_1 _ _ w => Go.Ab.FrameWraps_calls a0_0 a0_1 w
end Go.Proofs.Ytanilhagglikjaa
