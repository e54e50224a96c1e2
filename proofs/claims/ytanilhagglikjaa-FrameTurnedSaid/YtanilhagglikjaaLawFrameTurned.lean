/- The row of 'FrameTurned', out of the walk that stands in the texts imported: the statement as it is given, no condition more. -/
import Derived.Test.YtanilhagglikjaaRows
import Derived.ProofKit
import Derived.OpenShut
import Derived.ShutString
import Derived.Test.YtanilhagglikjaaAbTwo
import Derived.Test.YtanilhagglikjaaFsL
import Derived.Test.YtanilhagglikjaaHeadF
namespace Go.Proofs.Ytanilhagglikjaa
namespace LawFrameTurned
open Go.ChangeShapes Go.WideShapes Go.ChangeAt Go.RowKit Go.Ab
open Go.ChangeMaps (open_string shut_string)
set_option linter.unusedVariables false
theorem own : ownKnob Try.prog.godebug = none := by kernel_rfl
theorem laid : laidOutB Try.prog = true := laid_is
def Walk : Prop := ∀ (a0_0 : Int) (a0_1 : ByteArray) (a1 : Int) (a2 : Int) (wa0_0 : (Lit.int .i64 a0_0).wf = true) (wa0_1 : a0_1.size ≤ maxLen) (wa1 : (Lit.int .i64 a1).wf = true) (wa2 : (Lit.int .u8 a2).wf = true) (w : World), Calls Try.prog 8 #[.agg #[.int .i64 a0_0, .string a0_1], .int .i64 a1, .int .u8 a2] w fun e w' => e = .returned (.bool true) ∧ RowKit.Below w.heap.size w w'
set_option maxRecDepth 100000 in
theorem lifted (walk : Walk) (os : Os) (started : os.Started) (H : Type) (enc : TypeId × Value → H) :
    ReturnsInHanded {} Try.checked os 8 .any (Rows.frameTurnedSpec.pre6 enc Try.prog Try.f8 Rows.frameTurnedRow.domain false) (Rows.frameTurnedSpec.post enc Try.prog Try.f8 false true false false) := by
  refine returnsInHanded_of_change (C := Try.checked) own started (by kernel_rfl) Try.func8
    (ChangeSpec.witness6 (enc := enc) (C := Try.checked) false ⟨#[], #[.agg #[.int .i64 0, .string ⟨#[]⟩], .int .i64 0, .int .u8 0], []⟩ 8 (by kernel_rfl) (by kernel_rfl) (by kernel_rfl) (by kernel_rfl)) ?_
  intro W base args ds gs before hval0 hW hcnd _
  have hval : ∀ (j : Nat) t v, Try.f8.params[j]? = some t → args[j]? = some v → Value.okWide Try.prog W .any base t v := hval0
  have hW' := hW
  obtain ⟨p, q, hA0, hV, rfl, hfz, hnd⟩ := hW
  have hA : DataW.TrodAll enc Try.prog W 0 (fun _ => true) true Try.f8.params.toList args.toList ds p := hA0
  rw [Try.params8] at hA hval
  obtain ⟨v0, vs0, d0, ds0, p0, q0, hargs, rfl, rfl, h0, r0⟩ := trodAll_cons hA
  obtain ⟨v1, vs1, d1, ds1, p1, q1, rfl, rfl, rfl, h1, r1⟩ := trodAll_cons r0
  obtain ⟨v2, vs2, d2, ds2, p2, q2, rfl, rfl, rfl, h2, r2⟩ := trodAll_cons r1
  obtain ⟨rfl, rfl, rfl⟩ := trodAll_nil r2
  obtain rfl : args = #[v0, v1, v2] := by cases args; simp_all
  obtain ⟨rfl, rfl⟩ := trodVars_none hV
  obtain ⟨rfl, cs0, rfl, hl0⟩ := open_plain (n := 8) (ks := [.int .i64, .string]) (by kernel_rfl) (by kernel_rfl) (hval 0 26 v0 rfl rfl) h0
  obtain ⟨a0_0, ra0_0, rfl, wa0_0, hl0⟩ := hl0
  obtain ⟨a0_1, ra0_1, rfl, wa0_1, hl0⟩ := hl0
  cases hl0
  have k1 := h1
  obtain ⟨a1, rfl, hd1, rfl, wa1⟩ := open_int Try.underlying3 (hval 1 3 v1 rfl rfl) h1
  have k2 := h2
  obtain ⟨a2, rfl, hd2, rfl, wa2⟩ := open_int Try.underlying5 (hval 2 5 v2 rfl rfl) h2
  clear hA0 hval0
  refine (walk a0_0 a0_1 a1 a2 wa0_0 wa0_1 wa1 wa2 W ).mono fun e W' ⟨he, hb⟩ => ?_
  subst he
  exact ⟨_, rfl, ⟨_, _, _, [], [], [], hW', (trodAll_cons_mk (shut_bool Try.underlying4 _) trodAll_mk0), (trodAll_cons_mk (Below.trod laid (by kernel_rfl) (of_decide_eq_true (by kernel_rfl)) h0 hb (by simp)) (trodAll_cons_mk (Below.trod laid (by kernel_rfl) (of_decide_eq_true (by kernel_rfl)) k1 hb (by simp)) (trodAll_cons_mk (Below.trod laid (by kernel_rfl) (of_decide_eq_true (by kernel_rfl)) k2 hb (by simp)) trodAll_mk0))), rfl, hb.frame _, fun h => by cases h⟩⟩
theorem named_is : Try.prog.funcNamed Rows.frameTurnedRow.func = some 8 := by kernel_rfl
theorem inPlace_is : (Rows.frameTurnedRow.inPlace == Try.prog.inPlace 8) = true := by kernel_rfl
theorem unfollowed_is : (Rows.frameTurnedRow.unfollowed == Try.prog.unfollowed 8) = true := by kernel_rfl
theorem recurses_is : (Rows.frameTurnedRow.recurses == Try.prog.recurses 8) = true := by kernel_rfl
theorem vars_is : (Rows.frameTurnedRow.named == Try.prog.varsNamed 8) = true := by kernel_rfl
theorem closed : joinedFacts Try.prog 8 Try.f8 Rows.frameTurnedSpec Rows.frameTurnedRow = true := by
  unfold joinedFacts
  rw [laid_is, rowed_is, inPlace_is, unfollowed_is, recurses_is, vars_is, plainKeys_is, stopsHeard_is, mayEnter_is, liftsFinal_is, make_is]
  kernel_rfl
theorem instance_is : Try.f8.isInstance Try.prog Rows.frameTurnedRow.origin Rows.frameTurnedRow.targs := of_decide_eq_true (by kernel_rfl)
theorem wrapper_is : Try.f8.isWrapper Try.prog Rows.frameTurnedRow.wrapper Rows.frameTurnedRow.mainSum := by unfold Func.isWrapper; first | (rw [if_pos (by decide +kernel)]; kernel_rfl) | (rw [if_neg (by decide +kernel)]; exact ⟨rfl, rfl⟩)
theorem over (walk : Walk) : Rows.frameTurnedRow.holds Try.pinned (OpenSpec.ofChange Rows.frameTurnedSpec) :=
  OpenClaim.holds_of_wide 8 Try.f8 rfl rfl rfl rfl rfl rfl rfl ⟨rfl, rfl, rfl, rfl, rfl⟩ rfl rfl rfl rfl rfl named_is Try.func8 closed instance_is wrapper_is
    (fun os started H enc _ => lifted walk os started H enc)
end LawFrameTurned
theorem FrameTurned_holds : Rows.FrameTurnedSaid := LawFrameTurned.over fun a0_0 a0_1 a1 a2 wa0_0 wa0_1 wa1 wa2 w => Go.Ab.FrameTurned_calls a0_0 a0_1 a1 a2 wa0_0 wa0_1 wa1 wa2 w
end Go.Proofs.Ytanilhagglikjaa
