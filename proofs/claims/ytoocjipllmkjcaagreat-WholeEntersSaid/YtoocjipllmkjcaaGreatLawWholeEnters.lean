/- The row of 'WholeEnters', out of the walk that stands in the texts imported: the statement as it is given, no condition more. -/
import Derived.Test.YtoocjipllmkjcaaGreatRows
import Derived.ProofKit
import Derived.OpenShut
import Derived.ShutString
import Derived.SizedLaws
import Derived.Test.YtoocjipllmkjcaaGreatGAbM
import Derived.Test.YtoocjipllmkjcaaGreatGHoF
import Derived.Test.YtoocjipllmkjcaaGreatHead
namespace Go.Proofs.YtoocjipllmkjcaaGreat
namespace LawWholeEnters
open Go.ChangeShapes Go.WideShapes Go.ChangeAt Go.RowKit Go.Ab
set_option linter.unusedVariables false
theorem own : ownKnob Tryz.prog.godebug = none := by kernel_rfl
theorem laid : laidOutB Tryz.prog = true := laid_is
set_option maxRecDepth 100000 in
theorem lifted (os : Os) (started : os.Started) (H : Type) (enc : TypeId × Value → H) :
    ReturnsInHanded {} Tryz.checked os 12 .any (Rows.wholeEntersSpec.pre6 enc Tryz.prog Tryz.f12 Rows.wholeEntersRow.domain false) (Rows.wholeEntersSpec.post enc Tryz.prog Tryz.f12 false true false false) := by
  refine returnsInHanded_of_change_sized (C := Tryz.checked) own started (by kernel_rfl) Tryz.func12
    (ChangeSpec.witness6 (enc := enc) (C := Tryz.checked) false ⟨#[], #[.agg #[.int .i64 0, .slice none 0 0]], []⟩ 8 (by kernel_rfl) (by kernel_rfl) (by kernel_rfl) (by kernel_rfl)) ?_
  intro W base args ds gs before hval0 hW hcnd hk _
  have hval : ∀ (j : Nat) t v, Tryz.f12.params[j]? = some t → args[j]? = some v → Value.okWide Tryz.prog W .any base t v := hval0
  have hW' := hW
  obtain ⟨p, q, hA0, hV, rfl, hfz, hnd⟩ := hW
  have hA : DataW.TrodAll enc Tryz.prog W 0 (fun _ => true) true Tryz.f12.params.toList args.toList ds p := hA0
  rw [Tryz.params12] at hA hval
  obtain ⟨v0, vs0, d0, ds0, p0, q0, hargs, rfl, rfl, h0, r0⟩ := trodAll_cons hA
  obtain ⟨rfl, rfl, rfl⟩ := trodAll_nil r0
  obtain rfl : args = #[v0] := by cases args; simp_all
  obtain ⟨rfl, rfl⟩ := trodVars_none hV
  have hk2 : ∀ n ∈ d0.weights Tryz.prog 24, n ≤ 140737488355328 := fun n hn => by
    have h1 := DataW.weights_mem_each (P := Tryz.prog) (ts := Tryz.f12.params.toList ++ Rows.wholeEntersSpec.plain.varTypes Tryz.prog) (ds := [d0] ++ []) (j := 0) (t := 24) (d := d0) (by rw [Tryz.params12]; rfl) rfl n hn
    have h2 := of_decide_eq_true (List.all_eq_true.1 hk n h1)
    have h3 : reachBytes ≤ 140737488355328 := by decide
    omega
  obtain ⟨bg, a, c, rs, rfl, b0, hat, hz⟩ := play_open (hval 0 24 v0 rfl rfl) h0 hk2
  clear hA0 hval0
  refine (Go.Ab.V4a bg a c rs W hat hz).mono fun e W' he => ?_
  obtain ⟨v, rfl, hb, rfl⟩ := he
  exact ⟨_, rfl, ⟨_, _, _, [], _, [], hW', (trodAll_cons_mk (shut_bool Tryz.underlying4 _) trodAll_mk0), (trodAll_cons_mk (Below.trod laid (by kernel_rfl) (of_decide_eq_true (by kernel_rfl)) h0 hb b0) trodAll_mk0), rfl, hb.frame _, fun h => by cases h⟩⟩
theorem named_is : Tryz.prog.funcNamed Rows.wholeEntersRow.func = some 12 := by kernel_rfl
theorem inPlace_is : (Rows.wholeEntersRow.inPlace == Tryz.prog.inPlace 12) = true := by kernel_rfl
theorem unfollowed_is : (Rows.wholeEntersRow.unfollowed == Tryz.prog.unfollowed 12) = true := by kernel_rfl
theorem recurses_is : (Rows.wholeEntersRow.recurses == Tryz.prog.recurses 12) = true := by kernel_rfl
theorem vars_is : (Rows.wholeEntersRow.named == Tryz.prog.varsNamed 12) = true := by kernel_rfl
theorem closed : joinedFacts Tryz.prog 12 Tryz.f12 Rows.wholeEntersSpec Rows.wholeEntersRow = true := by
  unfold joinedFacts
  rw [laid_is, rowed_is, inPlace_is, unfollowed_is, recurses_is, vars_is, plainKeys_is, stopsHeard_is, mayEnter_is, liftsFinal_is, make_is]
  kernel_rfl
theorem instance_is : Tryz.f12.isInstance Tryz.prog Rows.wholeEntersRow.origin Rows.wholeEntersRow.targs := of_decide_eq_true (by kernel_rfl)
theorem wrapper_is : Tryz.f12.isWrapper Tryz.prog Rows.wholeEntersRow.wrapper Rows.wholeEntersRow.mainSum := by unfold Func.isWrapper; first | (rw [if_pos (by decide +kernel)]; kernel_rfl) | (rw [if_neg (by decide +kernel)]; exact ⟨rfl, rfl⟩)
theorem over : Rows.wholeEntersRow.holds Tryz.pinned (OpenSpec.ofChange Rows.wholeEntersSpec) :=
  OpenClaim.holds_of_wide 12 Tryz.f12 rfl rfl rfl rfl rfl rfl rfl ⟨rfl, rfl, rfl, rfl, rfl⟩ rfl rfl rfl rfl rfl named_is Tryz.func12 closed instance_is wrapper_is
    (fun os started H enc _ => lifted os started H enc)
end LawWholeEnters
theorem WholeEnters_holds : Rows.WholeEntersSaid := LawWholeEnters.over
end Go.Proofs.YtoocjipllmkjcaaGreat
