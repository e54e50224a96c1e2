/- The row of 'ModeFine', out of the walk that stands in the texts imported: the statement as it is given, no condition more. -/
import Derived.Test.YtghmnjmcnchinaaRows
import Derived.ProofKit
import Derived.OpenShut
import Derived.ShutString
import Derived.Test.YtghmnjmcnchinaaAbTwo
import Derived.Test.YtghmnjmcnchinaaLvFine
import Derived.Test.YtghmnjmcnchinaaHeadM
namespace Go.Proofs.Ytghmnjmcnchinaa
namespace LawModeFine
open Go.ChangeShapes Go.WideShapes Go.ChangeAt Go.RowKit Go.Ab
open Go.ChangeMaps (open_string shut_string)
set_option linter.unusedVariables false
theorem own : ownKnob Try.prog.godebug = none := by kernel_rfl
theorem laid : laidOutB Try.prog = true := laid_is
def Walk : Prop := ∀ (a0_0 : Int) (a0_1 : Int) (a0_2 : Int) (a0_3 : Int) (a0_4 : Int) (a0_5 : Int) (a1 : Int) (wa0_0 : (Lit.int .i64 a0_0).wf = true) (wa0_1 : (Lit.int .i64 a0_1).wf = true) (wa0_2 : (Lit.int .i64 a0_2).wf = true) (wa0_3 : (Lit.int .i64 a0_3).wf = true) (wa0_4 : (Lit.int .i64 a0_4).wf = true) (wa0_5 : (Lit.int .i64 a0_5).wf = true) (wa1 : (Lit.int .i64 a1).wf = true) (w : World), Calls Try.prog 5 #[.agg #[.int .i64 a0_0, .int .i64 a0_1, .int .i64 a0_2, .int .i64 a0_3, .int .i64 a0_4, .int .i64 a0_5], .int .i64 a1] w fun e w' => e = .returned (.bool true) ∧ RowKit.Below w.heap.size w w'
set_option maxRecDepth 100000 in
theorem lifted (walk : Walk) (os : Os) (started : os.Started) (H : Type) (enc : TypeId × Value → H) :
    ReturnsInHanded {} Try.checked os 5 .any (Rows.modeFineSpec.pre6 enc Try.prog Try.f5 Rows.modeFineRow.domain false) (Rows.modeFineSpec.post enc Try.prog Try.f5 false true false false) := by
  refine returnsInHanded_of_change (C := Try.checked) own started (by kernel_rfl) Try.func5
    (ChangeSpec.witness6 (enc := enc) (C := Try.checked) false ⟨#[], #[.agg #[.int .i64 0, .int .i64 0, .int .i64 0, .int .i64 0, .int .i64 0, .int .i64 0], .int .i64 0], []⟩ 8 (by kernel_rfl) (by kernel_rfl) (by kernel_rfl) (by kernel_rfl)) ?_
  intro W base args ds gs before hval0 hW hcnd _
  have hval : ∀ (j : Nat) t v, Try.f5.params[j]? = some t → args[j]? = some v → Value.okWide Try.prog W .any base t v := hval0
  have hW' := hW
  obtain ⟨p, q, hA0, hV, rfl, hfz, hnd⟩ := hW
  have hA : DataW.TrodAll enc Try.prog W 0 (fun _ => true) true Try.f5.params.toList args.toList ds p := hA0
  rw [Try.params5] at hA hval
  obtain ⟨v0, vs0, d0, ds0, p0, q0, hargs, rfl, rfl, h0, r0⟩ := trodAll_cons hA
  obtain ⟨v1, vs1, d1, ds1, p1, q1, rfl, rfl, rfl, h1, r1⟩ := trodAll_cons r0
  obtain ⟨rfl, rfl, rfl⟩ := trodAll_nil r1
  obtain rfl : args = #[v0, v1] := by cases args; simp_all
  obtain ⟨rfl, rfl⟩ := trodVars_none hV
  obtain ⟨rfl, cs0, rfl, hl0⟩ := open_plain (n := 8) (ks := [.int .i64, .int .i64, .int .i64, .int .i64, .int .i64, .int .i64]) (by kernel_rfl) (by kernel_rfl) (hval 0 23 v0 rfl rfl) h0
  obtain ⟨a0_0, ra0_0, rfl, wa0_0, hl0⟩ := hl0
  obtain ⟨a0_1, ra0_1, rfl, wa0_1, hl0⟩ := hl0
  obtain ⟨a0_2, ra0_2, rfl, wa0_2, hl0⟩ := hl0
  obtain ⟨a0_3, ra0_3, rfl, wa0_3, hl0⟩ := hl0
  obtain ⟨a0_4, ra0_4, rfl, wa0_4, hl0⟩ := hl0
  obtain ⟨a0_5, ra0_5, rfl, wa0_5, hl0⟩ := hl0
  cases hl0
  have k1 := h1
  obtain ⟨a1, rfl, hd1, rfl, wa1⟩ := open_int Try.underlying3 (hval 1 3 v1 rfl rfl) h1
  clear hA0 hval0
  refine (walk a0_0 a0_1 a0_2 a0_3 a0_4 a0_5 a1 wa0_0 wa0_1 wa0_2 wa0_3 wa0_4 wa0_5 wa1 W).mono fun e W' ⟨he, hb⟩ => ?_
  subst he
  exact ⟨_, rfl, ⟨_, _, _, [], [], [], hW', (trodAll_cons_mk (shut_bool Try.underlying4 _) trodAll_mk0), (trodAll_cons_mk (Below.trod laid (by kernel_rfl) (of_decide_eq_true (by kernel_rfl)) h0 hb (by simp)) (trodAll_cons_mk (Below.trod laid (by kernel_rfl) (of_decide_eq_true (by kernel_rfl)) k1 hb (by simp)) trodAll_mk0)), rfl, hb.frame _, fun h => by cases h⟩⟩
theorem named_is : Try.prog.funcNamed Rows.modeFineRow.func = some 5 := by kernel_rfl
theorem inPlace_is : (Rows.modeFineRow.inPlace == Try.prog.inPlace 5) = true := by kernel_rfl
theorem unfollowed_is : (Rows.modeFineRow.unfollowed == Try.prog.unfollowed 5) = true := by kernel_rfl
theorem recurses_is : (Rows.modeFineRow.recurses == Try.prog.recurses 5) = true := by kernel_rfl
theorem vars_is : (Rows.modeFineRow.named == Try.prog.varsNamed 5) = true := by kernel_rfl
theorem closed : joinedFacts Try.prog 5 Try.f5 Rows.modeFineSpec Rows.modeFineRow = true := by
  unfold joinedFacts
  rw [laid_is, rowed_is, inPlace_is, unfollowed_is, recurses_is, vars_is, plainKeys_is, stopsHeard_is, mayEnter_is, liftsFinal_is, make_is]
  kernel_rfl
theorem instance_is : Try.f5.isInstance Try.prog Rows.modeFineRow.origin Rows.modeFineRow.targs := of_decide_eq_true (by kernel_rfl)
theorem wrapper_is : Try.f5.isWrapper Try.prog Rows.modeFineRow.wrapper Rows.modeFineRow.mainSum := by unfold Func.isWrapper; first | (rw [if_pos (by decide +kernel)]; kernel_rfl) | (rw [if_neg (by decide +kernel)]; exact ⟨rfl, rfl⟩)
theorem over (walk : Walk) : Rows.modeFineRow.holds Try.pinned (OpenSpec.ofChange Rows.modeFineSpec) :=
  OpenClaim.holds_of_wide 5 Try.f5 rfl rfl rfl rfl rfl rfl rfl ⟨rfl, rfl, rfl, rfl, rfl⟩ rfl rfl rfl rfl rfl named_is Try.func5 closed instance_is wrapper_is
    (fun os started H enc _ => lifted walk os started H enc)
end LawModeFine
theorem ModeFine_holds : Rows.ModeFineSaid := LawModeFine.over fun a0_0 a0_1 a0_2 a0_3 a0_4 a0_5 a1 _ _ _ _ _ _ _ w => Go.Ab.ModeFine_calls a0_0 a0_1 a0_2 a0_3 a0_4 a0_5 a1 w
end Go.Proofs.Ytghmnjmcnchinaa
