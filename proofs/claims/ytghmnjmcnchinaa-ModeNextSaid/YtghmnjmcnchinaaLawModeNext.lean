/- The row of 'ModeNext', out of the walk that stands in the texts imported: the statement as it is given, no condition more. -/
import Derived.Test.YtghmnjmcnchinaaRows
import Derived.ProofKit
import Derived.OpenShut
import Derived.ShutString
import Derived.Test.YtghmnjmcnchinaaAbTwo
import Derived.Test.YtghmnjmcnchinaaLvModes
import Derived.Test.YtghmnjmcnchinaaHeadM
namespace Go.Proofs.Ytghmnjmcnchinaa
namespace LawModeNext
open Go.ChangeShapes Go.WideShapes Go.ChangeAt Go.RowKit Go.Ab
open Go.ChangeMaps (open_string shut_string)
set_option linter.unusedVariables false
theorem own : ownKnob Try.prog.godebug = none := by kernel_rfl
theorem laid : laidOutB Try.prog = true := laid_is
def Walk : Prop := ∀ (a0_0 : Int) (a0_1 : Int) (a0_2 : Int) (a0_3 : Int) (a0_4 : Int) (a0_5 : Int) (a1_0 : Bool) (a1_1 : Bool) (a1_2 : Bool) (a1_3 : Bool) (a1_4 : Bool) (a1_5 : Bool) (a1_6 : Bool) (a1_7 : Int) (wa0_0 : (Lit.int .i64 a0_0).wf = true) (wa0_1 : (Lit.int .i64 a0_1).wf = true) (wa0_2 : (Lit.int .i64 a0_2).wf = true) (wa0_3 : (Lit.int .i64 a0_3).wf = true) (wa0_4 : (Lit.int .i64 a0_4).wf = true) (wa0_5 : (Lit.int .i64 a0_5).wf = true) (wa1_7 : (Lit.int .i64 a1_7).wf = true) (w : World), Calls Try.prog 3 #[.agg #[.int .i64 a0_0, .int .i64 a0_1, .int .i64 a0_2, .int .i64 a0_3, .int .i64 a0_4, .int .i64 a0_5], .agg #[.bool a1_0, .bool a1_1, .bool a1_2, .bool a1_3, .bool a1_4, .bool a1_5, .bool a1_6, .int .i64 a1_7]] w fun e w' => e = .returned (.bool true) ∧ RowKit.Below w.heap.size w w'
set_option maxRecDepth 100000 in
theorem lifted (walk : Walk) (os : Os) (started : os.Started) (H : Type) (enc : TypeId × Value → H) :
    ReturnsInHanded {} Try.checked os 3 .any (Rows.modeNextSpec.pre6 enc Try.prog Try.f3 Rows.modeNextRow.domain false) (Rows.modeNextSpec.post enc Try.prog Try.f3 false true false false) := by
  refine returnsInHanded_of_change (C := Try.checked) own started (by kernel_rfl) Try.func3
    (ChangeSpec.witness6 (enc := enc) (C := Try.checked) false ⟨#[], #[.agg #[.int .i64 0, .int .i64 0, .int .i64 0, .int .i64 0, .int .i64 0, .int .i64 0], .agg #[.bool false, .bool false, .bool false, .bool false, .bool false, .bool false, .bool false, .int .i64 0]], []⟩ 8 (by kernel_rfl) (by kernel_rfl) (by kernel_rfl) (by kernel_rfl)) ?_
  intro W base args ds gs before hval0 hW hcnd _
  have hval : ∀ (j : Nat) t v, Try.f3.params[j]? = some t → args[j]? = some v → Value.okWide Try.prog W .any base t v := hval0
  have hW' := hW
  obtain ⟨p, q, hA0, hV, rfl, hfz, hnd⟩ := hW
  have hA : DataW.TrodAll enc Try.prog W 0 (fun _ => true) true Try.f3.params.toList args.toList ds p := hA0
  rw [Try.params3] at hA hval
  obtain ⟨v0, vs0, d0, ds0, p0, q0, hargs, rfl, rfl, h0, r0⟩ := trodAll_cons hA
  obtain ⟨v1, vs1, d1, ds1, p1, q1, rfl, rfl, rfl, h1, r1⟩ := trodAll_cons r0
  obtain ⟨rfl, rfl, rfl⟩ := trodAll_nil r1
  obtain rfl : args = #[v0, v1] := by cases args; simp_all
  obtain ⟨rfl, rfl⟩ := trodVars_none hV
  obtain ⟨rfl, cs0, rfl, hl0⟩ := open_plain (n := 8) (ks := [.int .i64, .int .i64, .int .i64, .int .i64, .int .i64, .int .i64]) (by kernel_rfl) (by kernel_rfl) (hval 0 23 v0 rfl rfl) h0
  obtain ⟨a0_0, ra0_0, rfl, wa0_0, hl0⟩ := hl0
  obtain ⟨a0_1, ra0_1, rfl, wa0_1, hl0⟩ := hl0
  obtain ⟨a0_2, ra0_2, rfl, wa0_2, hl0⟩ := hl0
  obtain ⟨a0_3, ra0_3, rfl, wa0_3, hl0⟩ := hl0
  obtain ⟨a0_4, ra0_4, rfl, wa0_4, hl0⟩ := hl0
  obtain ⟨a0_5, ra0_5, rfl, wa0_5, hl0⟩ := hl0
  cases hl0
  obtain ⟨rfl, cs1, rfl, hl1⟩ := open_plain (n := 8) (ks := [.bool, .bool, .bool, .bool, .bool, .bool, .bool, .int .i64]) (by kernel_rfl) (by kernel_rfl) (hval 1 25 v1 rfl rfl) h1
  obtain ⟨a1_0, ra1_0, rfl, hl1⟩ := hl1
  obtain ⟨a1_1, ra1_1, rfl, hl1⟩ := hl1
  obtain ⟨a1_2, ra1_2, rfl, hl1⟩ := hl1
  obtain ⟨a1_3, ra1_3, rfl, hl1⟩ := hl1
  obtain ⟨a1_4, ra1_4, rfl, hl1⟩ := hl1
  obtain ⟨a1_5, ra1_5, rfl, hl1⟩ := hl1
  obtain ⟨a1_6, ra1_6, rfl, hl1⟩ := hl1
  obtain ⟨a1_7, ra1_7, rfl, wa1_7, hl1⟩ := hl1
  cases hl1
  clear hA0 hval0
  refine (walk a0_0 a0_1 a0_2 a0_3 a0_4 a0_5 a1_0 a1_1 a1_2 a1_3 a1_4 a1_5 a1_6 a1_7 wa0_0 wa0_1 wa0_2 wa0_3 wa0_4 wa0_5 wa1_7 W).mono fun e W' ⟨he, hb⟩ => ?_
  subst he
  exact ⟨_, rfl, ⟨_, _, _, [], [], [], hW', (trodAll_cons_mk (shut_bool Try.underlying4 _) trodAll_mk0), (trodAll_cons_mk (Below.trod laid (by kernel_rfl) (of_decide_eq_true (by kernel_rfl)) h0 hb (by simp)) (trodAll_cons_mk (Below.trod laid (by kernel_rfl) (of_decide_eq_true (by kernel_rfl)) h1 hb (by simp)) trodAll_mk0)), rfl, hb.frame _, fun h => by cases h⟩⟩
theorem named_is : Try.prog.funcNamed Rows.modeNextRow.func = some 3 := by kernel_rfl
theorem inPlace_is : (Rows.modeNextRow.inPlace == Try.prog.inPlace 3) = true := by kernel_rfl
theorem unfollowed_is : (Rows.modeNextRow.unfollowed == Try.prog.unfollowed 3) = true := by kernel_rfl
theorem recurses_is : (Rows.modeNextRow.recurses == Try.prog.recurses 3) = true := by kernel_rfl
theorem vars_is : (Rows.modeNextRow.named == Try.prog.varsNamed 3) = true := by kernel_rfl
theorem closed : joinedFacts Try.prog 3 Try.f3 Rows.modeNextSpec Rows.modeNextRow = true := by
  unfold joinedFacts
  rw [laid_is, rowed_is, inPlace_is, unfollowed_is, recurses_is, vars_is, plainKeys_is, stopsHeard_is, mayEnter_is, liftsFinal_is, make_is]
  kernel_rfl
theorem instance_is : Try.f3.isInstance Try.prog Rows.modeNextRow.origin Rows.modeNextRow.targs := of_decide_eq_true (by kernel_rfl)
theorem wrapper_is : Try.f3.isWrapper Try.prog Rows.modeNextRow.wrapper Rows.modeNextRow.mainSum := by unfold Func.isWrapper; first | (rw [if_pos (by decide +kernel)]; kernel_rfl) | (rw [if_neg (by decide +kernel)]; exact ⟨rfl, rfl⟩)
theorem over (walk : Walk) : Rows.modeNextRow.holds Try.pinned (OpenSpec.ofChange Rows.modeNextSpec) :=
  OpenClaim.holds_of_wide 3 Try.f3 rfl rfl rfl rfl rfl rfl rfl ⟨rfl, rfl, rfl, rfl, rfl⟩ rfl rfl rfl rfl rfl named_is Try.func3 closed instance_is wrapper_is
    (fun os started H enc _ => lifted walk os started H enc)
end LawModeNext
theorem ModeNext_holds : Rows.ModeNextSaid := LawModeNext.over fun a0_0 a0_1 a0_2 a0_3 a0_4 a0_5 a1_0 a1_1 a1_2 a1_3 a1_4 a1_5 a1_6 a1_7 _ _ _ _ _ _ _ w => Go.Ab.ModeNext_calls a0_0 a0_1 a0_2 a0_3 a0_4 a0_5 a1_0 a1_1 a1_2 a1_3 a1_4 a1_5 a1_6 a1_7 w
end Go.Proofs.Ytghmnjmcnchinaa
