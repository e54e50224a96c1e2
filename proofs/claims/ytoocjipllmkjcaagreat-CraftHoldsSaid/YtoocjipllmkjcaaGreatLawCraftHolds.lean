/- The row of 'CraftHolds', out of the walk that stands in the texts imported: the statement as it is given, no condition more. -/
import Derived.Test.YtoocjipllmkjcaaGreatRows
import Derived.ProofKit
import Derived.OpenShut
import Derived.ShutString
import Derived.SizedLaws
import Derived.Test.YtoocjipllmkjcaaGreatGAbM
import Derived.Test.YtoocjipllmkjcaaGreatGHoB
import Derived.Test.YtoocjipllmkjcaaGreatPlA
import Derived.Test.YtoocjipllmkjcaaGreatHead
namespace Go.Proofs.YtoocjipllmkjcaaGreat
namespace LawCraftHolds
open Go.ChangeShapes Go.WideShapes Go.ChangeAt Go.RowKit Go.Ab
set_option linter.unusedVariables false
theorem own : ownKnob Tryz.prog.godebug = none := by kernel_rfl
theorem laid : laidOutB Tryz.prog = true := laid_is
set_option maxRecDepth 100000 in
theorem lifted (os : Os) (started : os.Started) (H : Type) (enc : TypeId × Value → H) :
    ReturnsInHanded {} Tryz.checked os 9 .any (Rows.craftHoldsSpec.pre6 enc Tryz.prog Tryz.f9 Rows.craftHoldsRow.domain false) (Rows.craftHoldsSpec.post enc Tryz.prog Tryz.f9 false true false false) := by
  refine returnsInHanded_of_change_sized (C := Tryz.checked) own started (by kernel_rfl) Tryz.func9
    (ChangeSpec.witness6 (enc := enc) (C := Tryz.checked) false ⟨#[], #[.int .i64 0, .slice none 0 0], []⟩ 8 (by kernel_rfl) (by kernel_rfl) (by kernel_rfl) (by kernel_rfl)) ?_
  intro W base args ds gs before hval0 hW hcnd hk _
  have hval : ∀ (j : Nat) t v, Tryz.f9.params[j]? = some t → args[j]? = some v → Value.okWide Tryz.prog W .any base t v := hval0
  have hW' := hW
  obtain ⟨p, q, hA0, hV, rfl, hfz, hnd⟩ := hW
  have hA : DataW.TrodAll enc Tryz.prog W 0 (fun _ => true) true Tryz.f9.params.toList args.toList ds p := hA0
  rw [Tryz.params9] at hA hval
  obtain ⟨v0, vs0, d0, ds0, p0, q0, hargs, rfl, rfl, h0, r0⟩ := trodAll_cons hA
  obtain ⟨v1, vs1, d1, ds1, p1, q1, rfl, rfl, rfl, h1, r1⟩ := trodAll_cons r0
  obtain ⟨rfl, rfl, rfl⟩ := trodAll_nil r1
  obtain rfl : args = #[v0, v1] := by cases args; simp_all
  obtain ⟨rfl, rfl⟩ := trodVars_none hV
  have hk2 : ∀ n ∈ d1.weights Tryz.prog 22, n ≤ 140737488355328 := fun n hn => by
    have h1 := DataW.weights_mem_each (P := Tryz.prog) (ts := Tryz.f9.params.toList ++ Rows.craftHoldsSpec.plain.varTypes Tryz.prog) (ds := [d0, d1] ++ []) (j := 1) (t := 22) (d := d1) (by rw [Tryz.params9]; rfl) rfl n hn
    have h2 := of_decide_eq_true (List.all_eq_true.1 hk n h1)
    have h3 : reachBytes ≤ 140737488355328 := by decide
    omega
  have k0 := h0
  obtain ⟨bg, rfl, hd0, rfl, wbg⟩ := open_int Tryz.underlying2 (hval 0 2 v0 rfl rfl) h0
  obtain ⟨a, c, rs, rfl, b1, hat, hz⟩ := recs_open (hval 1 22 v1 rfl rfl) h1 hk2
  clear hA0 hval0
  refine (Go.Ab.U4z bg a c rs W hat hz).mono fun e W' he => ?_
  obtain ⟨v, rfl, hb, rfl⟩ := he
  exact ⟨_, rfl, ⟨_, _, _, [], _, [], hW', (trodAll_cons_mk (shut_bool Tryz.underlying4 _) trodAll_mk0), (trodAll_cons_mk (Below.trod laid (by kernel_rfl) (of_decide_eq_true (by kernel_rfl)) k0 hb (by simp)) (trodAll_cons_mk (Below.trod laid (by kernel_rfl) (of_decide_eq_true (by kernel_rfl)) h1 hb b1) trodAll_mk0)), rfl, hb.frame _, fun h => by cases h⟩⟩
theorem named_is : Tryz.prog.funcNamed Rows.craftHoldsRow.func = some 9 := by kernel_rfl
theorem inPlace_is : (Rows.craftHoldsRow.inPlace == Tryz.prog.inPlace 9) = true := by kernel_rfl
theorem unfollowed_is : (Rows.craftHoldsRow.unfollowed == Tryz.prog.unfollowed 9) = true := by kernel_rfl
theorem recurses_is : (Rows.craftHoldsRow.recurses == Tryz.prog.recurses 9) = true := by kernel_rfl
theorem vars_is : (Rows.craftHoldsRow.named == Tryz.prog.varsNamed 9) = true := by kernel_rfl
theorem closed : joinedFacts Tryz.prog 9 Tryz.f9 Rows.craftHoldsSpec Rows.craftHoldsRow = true := by
  unfold joinedFacts
  rw [laid_is, rowed_is, inPlace_is, unfollowed_is, recurses_is, vars_is, plainKeys_is, stopsHeard_is, mayEnter_is, liftsFinal_is, make_is]
  kernel_rfl
theorem instance_is : Tryz.f9.isInstance Tryz.prog Rows.craftHoldsRow.origin Rows.craftHoldsRow.targs := of_decide_eq_true (by kernel_rfl)
theorem wrapper_is : Tryz.f9.isWrapper Tryz.prog Rows.craftHoldsRow.wrapper Rows.craftHoldsRow.mainSum := by unfold Func.isWrapper; first | (rw [if_pos (by decide +kernel)]; kernel_rfl) | (rw [if_neg (by decide +kernel)]; exact ⟨rfl, rfl⟩)
theorem over : Rows.craftHoldsRow.holds Tryz.pinned (OpenSpec.ofChange Rows.craftHoldsSpec) :=
  OpenClaim.holds_of_wide 9 Tryz.f9 rfl rfl rfl rfl rfl rfl rfl ⟨rfl, rfl, rfl, rfl, rfl⟩ rfl rfl rfl rfl rfl named_is Tryz.func9 closed instance_is wrapper_is
    (fun os started H enc _ => lifted os started H enc)
end LawCraftHolds
theorem CraftHolds_holds : Rows.CraftHoldsSaid := LawCraftHolds.over
end Go.Proofs.YtoocjipllmkjcaaGreat
