/- The row of 'BdotHolds', out of the walk that stands in the texts imported: the statement as it is given, no condition more. -/
import Derived.Test.YtgccejhdohpojaaRows
import Derived.ProofKit
import Derived.OpenShut
import Derived.ShutString
import Derived.Test.YtgccejhdohpojaaAbTwo
import Derived.Test.YtgccejhdohpojaaLvHolds
import Derived.Test.YtgccejhdohpojaaHead
namespace Go.Proofs.Ytgccejhdohpojaa
namespace LawBdotHolds
open Go.ChangeShapes Go.WideShapes Go.ChangeAt Go.RowKit Go.Ab
open Go.ChangeMaps (open_string shut_string)
set_option linter.unusedVariables false
theorem own : ownKnob Try.prog.godebug = none := by kernel_rfl
theorem laid : laidOutB Try.prog = true := laid_is
def Walk : Prop := ∀ (p0 : Option Addr) (n0 : Nat) (c0 : Nat) (p1 : Option Addr) (n1 : Nat) (c1 : Nat)  (w : World) (r0 : RowsAt w [.int .i64, .int .i64, .int .i64] p0 n0 c0) (r1 : RowsAt w [.int .i64] p1 n1 c1), Calls Try.prog 12 #[.slice p0 n0 c0, .slice p1 n1 c1] w fun e w' => e = .returned (.bool true) ∧ RowKit.Below w.heap.size w w'
set_option maxRecDepth 100000 in
theorem lifted (walk : Walk) (os : Os) (started : os.Started) (H : Type) (enc : TypeId × Value → H) :
    ReturnsInHanded {} Try.checked os 12 .any (Rows.bdotHoldsSpec.pre6 enc Try.prog Try.f12 Rows.bdotHoldsRow.domain false) (Rows.bdotHoldsSpec.post enc Try.prog Try.f12 false true false false) := by
  refine returnsInHanded_of_change (C := Try.checked) own started (by kernel_rfl) Try.func12
    (ChangeSpec.witness6 (enc := enc) (C := Try.checked) false ⟨#[], #[.slice none 0 0, .slice none 0 0], []⟩ 8 (by kernel_rfl) (by kernel_rfl) (by kernel_rfl) (by kernel_rfl)) ?_
  intro W base args ds gs before hval0 hW hcnd _
  have hval : ∀ (j : Nat) t v, Try.f12.params[j]? = some t → args[j]? = some v → Value.okWide Try.prog W .any base t v := hval0
  have hW' := hW
  obtain ⟨p, q, hA0, hV, rfl, hfz, hnd⟩ := hW
  have hA : DataW.TrodAll enc Try.prog W 0 (fun _ => true) true Try.f12.params.toList args.toList ds p := hA0
  rw [Try.params12] at hA hval
  obtain ⟨v0, vs0, d0, ds0, p0, q0, hargs, rfl, rfl, h0, r0⟩ := trodAll_cons hA
  obtain ⟨v1, vs1, d1, ds1, p1, q1, rfl, rfl, rfl, h1, r1⟩ := trodAll_cons r0
  obtain ⟨rfl, rfl, rfl⟩ := trodAll_nil r1
  obtain rfl : args = #[v0, v1] := by cases args; simp_all
  obtain ⟨rfl, rfl⟩ := trodVars_none hV
  obtain ⟨p0, n0, c0, rfl, b0, w0⟩ := open_rows (n := 8) (ks := [.int .i64, .int .i64, .int .i64]) Try.underlying54 (by kernel_rfl) (by kernel_rfl) (hval 0 54 v0 rfl rfl) h0
  obtain ⟨p1, n1, c1, rfl, b1, w1⟩ := open_rows (n := 8) (ks := [.int .i64]) Try.underlying55 (by kernel_rfl) (by kernel_rfl) (hval 1 55 v1 rfl rfl) h1
  clear hA0 hval0
  refine (walk p0 n0 c0 p1 n1 c1  W w0 w1).mono fun e W' ⟨he, hb⟩ => ?_
  subst he
  exact ⟨_, rfl, ⟨_, _, _, [], _, [], hW', (trodAll_cons_mk (shut_bool Try.underlying4 _) trodAll_mk0), (trodAll_cons_mk (Below.trod laid (by kernel_rfl) (of_decide_eq_true (by kernel_rfl)) h0 hb b0) (trodAll_cons_mk (Below.trod laid (by kernel_rfl) (of_decide_eq_true (by kernel_rfl)) h1 hb b1) trodAll_mk0)), rfl, hb.frame _, fun h => by cases h⟩⟩
theorem named_is : Try.prog.funcNamed Rows.bdotHoldsRow.func = some 12 := by kernel_rfl
theorem inPlace_is : (Rows.bdotHoldsRow.inPlace == Try.prog.inPlace 12) = true := by kernel_rfl
theorem unfollowed_is : (Rows.bdotHoldsRow.unfollowed == Try.prog.unfollowed 12) = true := by kernel_rfl
theorem recurses_is : (Rows.bdotHoldsRow.recurses == Try.prog.recurses 12) = true := by kernel_rfl
theorem vars_is : (Rows.bdotHoldsRow.named == Try.prog.varsNamed 12) = true := by kernel_rfl
theorem closed : joinedFacts Try.prog 12 Try.f12 Rows.bdotHoldsSpec Rows.bdotHoldsRow = true := by
  unfold joinedFacts
  rw [laid_is, rowed_is, inPlace_is, unfollowed_is, recurses_is, vars_is, plainKeys_is, stopsHeard_is, mayEnter_is, liftsFinal_is, make_is]
  kernel_rfl
theorem instance_is : Try.f12.isInstance Try.prog Rows.bdotHoldsRow.origin Rows.bdotHoldsRow.targs := of_decide_eq_true (by kernel_rfl)
theorem wrapper_is : Try.f12.isWrapper Try.prog Rows.bdotHoldsRow.wrapper Rows.bdotHoldsRow.mainSum := by unfold Func.isWrapper; first | (rw [if_pos (by decide +kernel)]; kernel_rfl) | (rw [if_neg (by decide +kernel)]; exact ⟨rfl, rfl⟩)
theorem over (walk : Walk) : Rows.bdotHoldsRow.holds Try.pinned (OpenSpec.ofChange Rows.bdotHoldsSpec) :=
  OpenClaim.holds_of_wide 12 Try.f12 rfl rfl rfl rfl rfl rfl rfl ⟨rfl, rfl, rfl, rfl, rfl⟩ rfl rfl rfl rfl rfl named_is Try.func12 closed instance_is wrapper_is
    (fun os started H enc _ => lifted walk os started H enc)
end LawBdotHolds
theorem BdotHolds_holds : Rows.BdotHoldsSaid := LawBdotHolds.over fun p0 n0 c0 p1 n1 c1  w r0 r1 => Go.Ab.BdotHolds_calls p0 n0 c0 p1 n1 c1 w r0 r1
end Go.Proofs.Ytgccejhdohpojaa
