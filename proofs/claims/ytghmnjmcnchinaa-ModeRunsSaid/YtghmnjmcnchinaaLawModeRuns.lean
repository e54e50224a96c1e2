/- The row of 'ModeRuns', out of the walk that stands in the texts imported: the statement as it is given, no condition more. -/
import Derived.Test.YtghmnjmcnchinaaRows
import Derived.ProofKit
import Derived.OpenShut
import Derived.ShutString
import Derived.Test.YtghmnjmcnchinaaAbTwo
import Derived.Test.YtghmnjmcnchinaaLvRuns
import Derived.Test.YtghmnjmcnchinaaHeadM
namespace Go.Proofs.Ytghmnjmcnchinaa
namespace LawModeRuns
open Go.ChangeShapes Go.WideShapes Go.ChangeAt Go.RowKit Go.Ab
open Go.ChangeMaps (open_string shut_string)
set_option linter.unusedVariables false
theorem own : ownKnob Try.prog.godebug = none := by kernel_rfl
theorem laid : laidOutB Try.prog = true := laid_is
def Walk : Prop := ∀ (p0 : Option Addr) (n0 : Nat) (c0 : Nat)  (w : World) (r0 : RowsAt w [.bool, .bool, .bool, .bool, .bool, .bool, .bool, .int .i64] p0 n0 c0), Calls Try.prog 4 #[.slice p0 n0 c0] w fun e w' => e = .returned (.bool true) ∧ RowKit.Below w.heap.size w w'
set_option maxRecDepth 100000 in
theorem lifted (walk : Walk) (os : Os) (started : os.Started) (H : Type) (enc : TypeId × Value → H) :
    ReturnsInHanded {} Try.checked os 4 .any (Rows.modeRunsSpec.pre6 enc Try.prog Try.f4 Rows.modeRunsRow.domain false) (Rows.modeRunsSpec.post enc Try.prog Try.f4 false true false false) := by
  refine returnsInHanded_of_change (C := Try.checked) own started (by kernel_rfl) Try.func4
    (ChangeSpec.witness6 (enc := enc) (C := Try.checked) false ⟨#[], #[.slice none 0 0], []⟩ 8 (by kernel_rfl) (by kernel_rfl) (by kernel_rfl) (by kernel_rfl)) ?_
  intro W base args ds gs before hval0 hW hcnd _
  have hval : ∀ (j : Nat) t v, Try.f4.params[j]? = some t → args[j]? = some v → Value.okWide Try.prog W .any base t v := hval0
  have hW' := hW
  obtain ⟨p, q, hA0, hV, rfl, hfz, hnd⟩ := hW
  have hA : DataW.TrodAll enc Try.prog W 0 (fun _ => true) true Try.f4.params.toList args.toList ds p := hA0
  rw [Try.params4] at hA hval
  obtain ⟨v0, vs0, d0, ds0, p0, q0, hargs, rfl, rfl, h0, r0⟩ := trodAll_cons hA
  obtain ⟨rfl, rfl, rfl⟩ := trodAll_nil r0
  obtain rfl : args = #[v0] := by cases args; simp_all
  obtain ⟨rfl, rfl⟩ := trodVars_none hV
  obtain ⟨p0, n0, c0, rfl, b0, w0⟩ := open_rows (n := 8) (ks := [.bool, .bool, .bool, .bool, .bool, .bool, .bool, .int .i64]) Try.underlying29 (by kernel_rfl) (by kernel_rfl) (hval 0 29 v0 rfl rfl) h0
  clear hA0 hval0
  refine (walk p0 n0 c0  W w0).mono fun e W' ⟨he, hb⟩ => ?_
  subst he
  exact ⟨_, rfl, ⟨_, _, _, [], _, [], hW', (trodAll_cons_mk (shut_bool Try.underlying4 _) trodAll_mk0), (trodAll_cons_mk (Below.trod laid (by kernel_rfl) (of_decide_eq_true (by kernel_rfl)) h0 hb b0) trodAll_mk0), rfl, hb.frame _, fun h => by cases h⟩⟩
theorem named_is : Try.prog.funcNamed Rows.modeRunsRow.func = some 4 := by kernel_rfl
theorem inPlace_is : (Rows.modeRunsRow.inPlace == Try.prog.inPlace 4) = true := by kernel_rfl
theorem unfollowed_is : (Rows.modeRunsRow.unfollowed == Try.prog.unfollowed 4) = true := by kernel_rfl
theorem recurses_is : (Rows.modeRunsRow.recurses == Try.prog.recurses 4) = true := by kernel_rfl
theorem vars_is : (Rows.modeRunsRow.named == Try.prog.varsNamed 4) = true := by kernel_rfl
theorem closed : joinedFacts Try.prog 4 Try.f4 Rows.modeRunsSpec Rows.modeRunsRow = true := by
  unfold joinedFacts
  rw [laid_is, rowed_is, inPlace_is, unfollowed_is, recurses_is, vars_is, plainKeys_is, stopsHeard_is, mayEnter_is, liftsFinal_is, make_is]
  kernel_rfl
theorem instance_is : Try.f4.isInstance Try.prog Rows.modeRunsRow.origin Rows.modeRunsRow.targs := of_decide_eq_true (by kernel_rfl)
theorem wrapper_is : Try.f4.isWrapper Try.prog Rows.modeRunsRow.wrapper Rows.modeRunsRow.mainSum := by unfold Func.isWrapper; first | (rw [if_pos (by decide +kernel)]; kernel_rfl) | (rw [if_neg (by decide +kernel)]; exact ⟨rfl, rfl⟩)
theorem over (walk : Walk) : Rows.modeRunsRow.holds Try.pinned (OpenSpec.ofChange Rows.modeRunsSpec) :=
  OpenClaim.holds_of_wide 4 Try.f4 rfl rfl rfl rfl rfl rfl rfl ⟨rfl, rfl, rfl, rfl, rfl⟩ rfl rfl rfl rfl rfl named_is Try.func4 closed instance_is wrapper_is
    (fun os started H enc _ => lifted walk os started H enc)
end LawModeRuns
theorem ModeRuns_holds : Rows.ModeRunsSaid := LawModeRuns.over fun p0 n0 c0  w r0 => Go.Ab.ModeRuns_calls p0 n0 c0 w r0
end Go.Proofs.Ytghmnjmcnchinaa
