/- The row of 'FilterEven', out of the walk that stands in the texts imported: the statement as it is given, no condition more. -/
import Derived.Test.YtccgjhdpiaglaaaRows
import Derived.ProofKit
import Derived.OpenShut
import Derived.ShutString
import Derived.Test.YtccgjhdpiaglaaaGAbM
import Derived.Test.YtccgjhdpiaglaaaLvE
import Derived.Test.YtccgjhdpiaglaaaHead
namespace Go.Proofs.Ytccgjhdpiaglaaa
namespace LawFilterEven
open Go.ChangeShapes Go.WideShapes Go.ChangeAt Go.RowKit Go.Ab
open Go.ChangeMaps (open_string shut_string)
set_option linter.unusedVariables false
theorem own : ownKnob Try.prog.godebug = none := by kernel_rfl
theorem laid : laidOutB Try.prog = true := laid_is
def Walk : Prop := ∀ (a0_0 : Int) (a0_1 : Int) (a0_2 : Int) (a0_3 : Int) (a0_4 : Int) (a0_5 : Int) (a0_6 : Int) (a0_7 : Int) (a0_8 : Int) (a0_9 : Int) (a0_10 : Int) (a0_11 : Int) (a0_12 : Int) (a0_13 : Int) (a0_14 : Int) (a0_15 : Int) (a0_16 : Int) (a0_17 : Int) (a0_18 : Int) (a0_19 : Int) (a0_20 : Int) (a0_21 : Int) (a0_22 : Int) (a0_23 : Int) (a0_24 : Int) (a0_25 : Int) (a0_26 : Int) (a0_27 : Int) (a0_28 : Int) (a0_29 : Int) (a0_30 : Int) (a0_31 : Int) (a0_32 : Int) (a0_33 : Int) (a0_34 : Int) (a0_35 : Int) (a0_36 : Int) (a0_37 : Int) (a0_38 : Int) (a0_39 : Int) (a0_40 : Int) (a0_41 : Int) (a0_42 : Int) (a1_0 : Int) (a1_1 : Int) (a1_2 : Int) (a2_0 : Int) (a2_1 : Int) (a2_2 : Int) (a2_3 : Int) (a2_4 : Int) (a2_5 : Int) (a2_6 : Int) (a2_7 : Int) (a2_8 : Int) (a2_9 : Int) (a2_10 : Int) (a2_11 : Int) (a2_12 : Int) (wa0_0 : (Lit.int .i64 a0_0).wf = true) (wa0_1 : (Lit.int .i64 a0_1).wf = true) (wa0_2 : (Lit.int .i64 a0_2).wf = true) (wa0_3 : (Lit.int .i64 a0_3).wf = true) (wa0_4 : (Lit.int .i64 a0_4).wf = true) (wa0_5 : (Lit.int .i64 a0_5).wf = true) (wa0_6 : (Lit.int .i64 a0_6).wf = true) (wa0_7 : (Lit.int .i64 a0_7).wf = true) (wa0_8 : (Lit.int .i64 a0_8).wf = true) (wa0_9 : (Lit.int .i64 a0_9).wf = true) (wa0_10 : (Lit.int .i64 a0_10).wf = true) (wa0_11 : (Lit.int .i64 a0_11).wf = true) (wa0_12 : (Lit.int .i64 a0_12).wf = true) (wa0_13 : (Lit.int .i64 a0_13).wf = true) (wa0_14 : (Lit.int .i64 a0_14).wf = true) (wa0_15 : (Lit.int .i64 a0_15).wf = true) (wa0_16 : (Lit.int .i64 a0_16).wf = true) (wa0_17 : (Lit.int .i64 a0_17).wf = true) (wa0_18 : (Lit.int .i64 a0_18).wf = true) (wa0_19 : (Lit.int .i64 a0_19).wf = true) (wa0_20 : (Lit.int .i64 a0_20).wf = true) (wa0_21 : (Lit.int .i64 a0_21).wf = true) (wa0_22 : (Lit.int .i64 a0_22).wf = true) (wa0_23 : (Lit.int .i64 a0_23).wf = true) (wa0_24 : (Lit.int .i64 a0_24).wf = true) (wa0_25 : (Lit.int .i64 a0_25).wf = true) (wa0_26 : (Lit.int .i64 a0_26).wf = true) (wa0_27 : (Lit.int .i64 a0_27).wf = true) (wa0_28 : (Lit.int .i64 a0_28).wf = true) (wa0_29 : (Lit.int .i64 a0_29).wf = true) (wa0_30 : (Lit.int .i64 a0_30).wf = true) (wa0_31 : (Lit.int .i64 a0_31).wf = true) (wa0_32 : (Lit.int .i64 a0_32).wf = true) (wa0_33 : (Lit.int .i64 a0_33).wf = true) (wa0_34 : (Lit.int .i64 a0_34).wf = true) (wa0_35 : (Lit.int .i64 a0_35).wf = true) (wa0_36 : (Lit.int .i64 a0_36).wf = true) (wa0_37 : (Lit.int .i64 a0_37).wf = true) (wa0_38 : (Lit.int .i64 a0_38).wf = true) (wa0_39 : (Lit.int .i64 a0_39).wf = true) (wa0_40 : (Lit.int .i64 a0_40).wf = true) (wa0_41 : (Lit.int .i64 a0_41).wf = true) (wa0_42 : (Lit.int .i64 a0_42).wf = true) (wa1_0 : (Lit.int .i64 a1_0).wf = true) (wa1_1 : (Lit.int .i64 a1_1).wf = true) (wa1_2 : (Lit.int .i64 a1_2).wf = true) (wa2_0 : (Lit.int .i64 a2_0).wf = true) (wa2_1 : (Lit.int .i64 a2_1).wf = true) (wa2_2 : (Lit.int .i64 a2_2).wf = true) (wa2_3 : (Lit.int .i64 a2_3).wf = true) (wa2_4 : (Lit.int .i64 a2_4).wf = true) (wa2_5 : (Lit.int .i64 a2_5).wf = true) (wa2_6 : (Lit.int .i64 a2_6).wf = true) (wa2_7 : (Lit.int .i64 a2_7).wf = true) (wa2_8 : (Lit.int .i64 a2_8).wf = true) (wa2_9 : (Lit.int .i64 a2_9).wf = true) (wa2_10 : (Lit.int .i64 a2_10).wf = true) (wa2_11 : (Lit.int .i64 a2_11).wf = true) (wa2_12 : (Lit.int .i64 a2_12).wf = true) (w : World), Calls Try.prog 12 #[.agg #[.int .i64 a0_0, .int .i64 a0_1, .int .i64 a0_2, .int .i64 a0_3, .int .i64 a0_4, .int .i64 a0_5, .int .i64 a0_6, .int .i64 a0_7, .int .i64 a0_8, .int .i64 a0_9, .int .i64 a0_10, .int .i64 a0_11, .int .i64 a0_12, .int .i64 a0_13, .int .i64 a0_14, .int .i64 a0_15, .int .i64 a0_16, .int .i64 a0_17, .int .i64 a0_18, .int .i64 a0_19, .int .i64 a0_20, .int .i64 a0_21, .int .i64 a0_22, .int .i64 a0_23, .int .i64 a0_24, .int .i64 a0_25, .int .i64 a0_26, .int .i64 a0_27, .int .i64 a0_28, .int .i64 a0_29, .int .i64 a0_30, .int .i64 a0_31, .int .i64 a0_32, .int .i64 a0_33, .int .i64 a0_34, .int .i64 a0_35, .int .i64 a0_36, .int .i64 a0_37, .int .i64 a0_38, .int .i64 a0_39, .int .i64 a0_40, .int .i64 a0_41, .int .i64 a0_42], .agg #[.int .i64 a1_0, .int .i64 a1_1, .int .i64 a1_2], .agg #[.int .i64 a2_0, .int .i64 a2_1, .int .i64 a2_2, .int .i64 a2_3, .int .i64 a2_4, .int .i64 a2_5, .int .i64 a2_6, .int .i64 a2_7, .int .i64 a2_8, .int .i64 a2_9, .int .i64 a2_10, .int .i64 a2_11, .int .i64 a2_12]] w fun e w' => e = .returned (.bool true) ∧ RowKit.Below w.heap.size w w'
set_option maxRecDepth 100000 in
theorem lifted (walk : Walk) (os : Os) (started : os.Started) (H : Type) (enc : TypeId × Value → H) :
    ReturnsInHanded {} Try.checked os 12 .any (Rows.filterEvenSpec.pre6 enc Try.prog Try.f12 Rows.filterEvenRow.domain false) (Rows.filterEvenSpec.post enc Try.prog Try.f12 false true false false) := by
  refine returnsInHanded_of_change (C := Try.checked) own started (by kernel_rfl) Try.func12
    (ChangeSpec.witness6 (enc := enc) (C := Try.checked) false ⟨#[], #[.agg #[.int .i64 0, .int .i64 0, .int .i64 0, .int .i64 0, .int .i64 0, .int .i64 0, .int .i64 0, .int .i64 0, .int .i64 0, .int .i64 0, .int .i64 0, .int .i64 0, .int .i64 0, .int .i64 0, .int .i64 0, .int .i64 0, .int .i64 0, .int .i64 0, .int .i64 0, .int .i64 0, .int .i64 0, .int .i64 0, .int .i64 0, .int .i64 0, .int .i64 0, .int .i64 0, .int .i64 0, .int .i64 0, .int .i64 0, .int .i64 0, .int .i64 0, .int .i64 0, .int .i64 0, .int .i64 0, .int .i64 0, .int .i64 0, .int .i64 0, .int .i64 0, .int .i64 0, .int .i64 0, .int .i64 0, .int .i64 0, .int .i64 0], .agg #[.int .i64 0, .int .i64 0, .int .i64 0], .agg #[.int .i64 0, .int .i64 0, .int .i64 0, .int .i64 0, .int .i64 0, .int .i64 0, .int .i64 0, .int .i64 0, .int .i64 0, .int .i64 0, .int .i64 0, .int .i64 0, .int .i64 0]], []⟩ 8 (by kernel_rfl) (by kernel_rfl) (by kernel_rfl) (by kernel_rfl)) ?_
  intro W base args ds gs before hval0 hW hcnd _
  have hval : ∀ (j : Nat) t v, Try.f12.params[j]? = some t → args[j]? = some v → Value.okWide Try.prog W .any base t v := hval0
  have hW' := hW
  obtain ⟨p, q, hA0, hV, rfl, hfz, hnd⟩ := hW
  have hA : DataW.TrodAll enc Try.prog W 0 (fun _ => true) true Try.f12.params.toList args.toList ds p := hA0
  rw [Try.params12] at hA hval
  obtain ⟨v0, vs0, d0, ds0, p0, q0, hargs, rfl, rfl, h0, r0⟩ := trodAll_cons hA
  obtain ⟨v1, vs1, d1, ds1, p1, q1, rfl, rfl, rfl, h1, r1⟩ := trodAll_cons r0
  obtain ⟨v2, vs2, d2, ds2, p2, q2, rfl, rfl, rfl, h2, r2⟩ := trodAll_cons r1
  obtain ⟨rfl, rfl, rfl⟩ := trodAll_nil r2
  obtain rfl : args = #[v0, v1, v2] := by cases args; simp_all
  obtain ⟨rfl, rfl⟩ := trodVars_none hV
  obtain ⟨rfl, cs0, rfl, hl0⟩ := open_plain (n := 8) (ks := [.int .i64, .int .i64, .int .i64, .int .i64, .int .i64, .int .i64, .int .i64, .int .i64, .int .i64, .int .i64, .int .i64, .int .i64, .int .i64, .int .i64, .int .i64, .int .i64, .int .i64, .int .i64, .int .i64, .int .i64, .int .i64, .int .i64, .int .i64, .int .i64, .int .i64, .int .i64, .int .i64, .int .i64, .int .i64, .int .i64, .int .i64, .int .i64, .int .i64, .int .i64, .int .i64, .int .i64, .int .i64, .int .i64, .int .i64, .int .i64, .int .i64, .int .i64, .int .i64]) (by kernel_rfl) (by kernel_rfl) (hval 0 67 v0 rfl rfl) h0
  obtain ⟨a0_0, ra0_0, rfl, wa0_0, hl0⟩ := hl0
  obtain ⟨a0_1, ra0_1, rfl, wa0_1, hl0⟩ := hl0
  obtain ⟨a0_2, ra0_2, rfl, wa0_2, hl0⟩ := hl0
  obtain ⟨a0_3, ra0_3, rfl, wa0_3, hl0⟩ := hl0
  obtain ⟨a0_4, ra0_4, rfl, wa0_4, hl0⟩ := hl0
  obtain ⟨a0_5, ra0_5, rfl, wa0_5, hl0⟩ := hl0
  obtain ⟨a0_6, ra0_6, rfl, wa0_6, hl0⟩ := hl0
  obtain ⟨a0_7, ra0_7, rfl, wa0_7, hl0⟩ := hl0
  obtain ⟨a0_8, ra0_8, rfl, wa0_8, hl0⟩ := hl0
  obtain ⟨a0_9, ra0_9, rfl, wa0_9, hl0⟩ := hl0
  obtain ⟨a0_10, ra0_10, rfl, wa0_10, hl0⟩ := hl0
  obtain ⟨a0_11, ra0_11, rfl, wa0_11, hl0⟩ := hl0
  obtain ⟨a0_12, ra0_12, rfl, wa0_12, hl0⟩ := hl0
  obtain ⟨a0_13, ra0_13, rfl, wa0_13, hl0⟩ := hl0
  obtain ⟨a0_14, ra0_14, rfl, wa0_14, hl0⟩ := hl0
  obtain ⟨a0_15, ra0_15, rfl, wa0_15, hl0⟩ := hl0
  obtain ⟨a0_16, ra0_16, rfl, wa0_16, hl0⟩ := hl0
  obtain ⟨a0_17, ra0_17, rfl, wa0_17, hl0⟩ := hl0
  obtain ⟨a0_18, ra0_18, rfl, wa0_18, hl0⟩ := hl0
  obtain ⟨a0_19, ra0_19, rfl, wa0_19, hl0⟩ := hl0
  obtain ⟨a0_20, ra0_20, rfl, wa0_20, hl0⟩ := hl0
  obtain ⟨a0_21, ra0_21, rfl, wa0_21, hl0⟩ := hl0
  obtain ⟨a0_22, ra0_22, rfl, wa0_22, hl0⟩ := hl0
  obtain ⟨a0_23, ra0_23, rfl, wa0_23, hl0⟩ := hl0
  obtain ⟨a0_24, ra0_24, rfl, wa0_24, hl0⟩ := hl0
  obtain ⟨a0_25, ra0_25, rfl, wa0_25, hl0⟩ := hl0
  obtain ⟨a0_26, ra0_26, rfl, wa0_26, hl0⟩ := hl0
  obtain ⟨a0_27, ra0_27, rfl, wa0_27, hl0⟩ := hl0
  obtain ⟨a0_28, ra0_28, rfl, wa0_28, hl0⟩ := hl0
  obtain ⟨a0_29, ra0_29, rfl, wa0_29, hl0⟩ := hl0
  obtain ⟨a0_30, ra0_30, rfl, wa0_30, hl0⟩ := hl0
  obtain ⟨a0_31, ra0_31, rfl, wa0_31, hl0⟩ := hl0
  obtain ⟨a0_32, ra0_32, rfl, wa0_32, hl0⟩ := hl0
  obtain ⟨a0_33, ra0_33, rfl, wa0_33, hl0⟩ := hl0
  obtain ⟨a0_34, ra0_34, rfl, wa0_34, hl0⟩ := hl0
  obtain ⟨a0_35, ra0_35, rfl, wa0_35, hl0⟩ := hl0
  obtain ⟨a0_36, ra0_36, rfl, wa0_36, hl0⟩ := hl0
  obtain ⟨a0_37, ra0_37, rfl, wa0_37, hl0⟩ := hl0
  obtain ⟨a0_38, ra0_38, rfl, wa0_38, hl0⟩ := hl0
  obtain ⟨a0_39, ra0_39, rfl, wa0_39, hl0⟩ := hl0
  obtain ⟨a0_40, ra0_40, rfl, wa0_40, hl0⟩ := hl0
  obtain ⟨a0_41, ra0_41, rfl, wa0_41, hl0⟩ := hl0
  obtain ⟨a0_42, ra0_42, rfl, wa0_42, hl0⟩ := hl0
  cases hl0
  obtain ⟨rfl, cs1, rfl, hl1⟩ := open_plain (n := 8) (ks := [.int .i64, .int .i64, .int .i64]) (by kernel_rfl) (by kernel_rfl) (hval 1 32 v1 rfl rfl) h1
  obtain ⟨a1_0, ra1_0, rfl, wa1_0, hl1⟩ := hl1
  obtain ⟨a1_1, ra1_1, rfl, wa1_1, hl1⟩ := hl1
  obtain ⟨a1_2, ra1_2, rfl, wa1_2, hl1⟩ := hl1
  cases hl1
  obtain ⟨rfl, cs2, rfl, hl2⟩ := open_plain (n := 8) (ks := [.int .i64, .int .i64, .int .i64, .int .i64, .int .i64, .int .i64, .int .i64, .int .i64, .int .i64, .int .i64, .int .i64, .int .i64, .int .i64]) (by kernel_rfl) (by kernel_rfl) (hval 2 79 v2 rfl rfl) h2
  obtain ⟨a2_0, ra2_0, rfl, wa2_0, hl2⟩ := hl2
  obtain ⟨a2_1, ra2_1, rfl, wa2_1, hl2⟩ := hl2
  obtain ⟨a2_2, ra2_2, rfl, wa2_2, hl2⟩ := hl2
  obtain ⟨a2_3, ra2_3, rfl, wa2_3, hl2⟩ := hl2
  obtain ⟨a2_4, ra2_4, rfl, wa2_4, hl2⟩ := hl2
  obtain ⟨a2_5, ra2_5, rfl, wa2_5, hl2⟩ := hl2
  obtain ⟨a2_6, ra2_6, rfl, wa2_6, hl2⟩ := hl2
  obtain ⟨a2_7, ra2_7, rfl, wa2_7, hl2⟩ := hl2
  obtain ⟨a2_8, ra2_8, rfl, wa2_8, hl2⟩ := hl2
  obtain ⟨a2_9, ra2_9, rfl, wa2_9, hl2⟩ := hl2
  obtain ⟨a2_10, ra2_10, rfl, wa2_10, hl2⟩ := hl2
  obtain ⟨a2_11, ra2_11, rfl, wa2_11, hl2⟩ := hl2
  obtain ⟨a2_12, ra2_12, rfl, wa2_12, hl2⟩ := hl2
  cases hl2
  clear hA0 hval0
  refine (walk a0_0 a0_1 a0_2 a0_3 a0_4 a0_5 a0_6 a0_7 a0_8 a0_9 a0_10 a0_11 a0_12 a0_13 a0_14 a0_15 a0_16 a0_17 a0_18 a0_19 a0_20 a0_21 a0_22 a0_23 a0_24 a0_25 a0_26 a0_27 a0_28 a0_29 a0_30 a0_31 a0_32 a0_33 a0_34 a0_35 a0_36 a0_37 a0_38 a0_39 a0_40 a0_41 a0_42 a1_0 a1_1 a1_2 a2_0 a2_1 a2_2 a2_3 a2_4 a2_5 a2_6 a2_7 a2_8 a2_9 a2_10 a2_11 a2_12 wa0_0 wa0_1 wa0_2 wa0_3 wa0_4 wa0_5 wa0_6 wa0_7 wa0_8 wa0_9 wa0_10 wa0_11 wa0_12 wa0_13 wa0_14 wa0_15 wa0_16 wa0_17 wa0_18 wa0_19 wa0_20 wa0_21 wa0_22 wa0_23 wa0_24 wa0_25 wa0_26 wa0_27 wa0_28 wa0_29 wa0_30 wa0_31 wa0_32 wa0_33 wa0_34 wa0_35 wa0_36 wa0_37 wa0_38 wa0_39 wa0_40 wa0_41 wa0_42 wa1_0 wa1_1 wa1_2 wa2_0 wa2_1 wa2_2 wa2_3 wa2_4 wa2_5 wa2_6 wa2_7 wa2_8 wa2_9 wa2_10 wa2_11 wa2_12 W ).mono fun e W' ⟨he, hb⟩ => ?_
  subst he
  exact ⟨_, rfl, ⟨_, _, _, [], [], [], hW', (trodAll_cons_mk (shut_bool Try.underlying4 _) trodAll_mk0), (trodAll_cons_mk (Below.trod laid (by kernel_rfl) (of_decide_eq_true (by kernel_rfl)) h0 hb (by simp)) (trodAll_cons_mk (Below.trod laid (by kernel_rfl) (of_decide_eq_true (by kernel_rfl)) h1 hb (by simp)) (trodAll_cons_mk (Below.trod laid (by kernel_rfl) (of_decide_eq_true (by kernel_rfl)) h2 hb (by simp)) trodAll_mk0))), rfl, hb.frame _, fun h => by cases h⟩⟩
theorem named_is : Try.prog.funcNamed Rows.filterEvenRow.func = some 12 := by kernel_rfl
theorem inPlace_is : (Rows.filterEvenRow.inPlace == Try.prog.inPlace 12) = true := by kernel_rfl
theorem unfollowed_is : (Rows.filterEvenRow.unfollowed == Try.prog.unfollowed 12) = true := by kernel_rfl
theorem recurses_is : (Rows.filterEvenRow.recurses == Try.prog.recurses 12) = true := by kernel_rfl
theorem vars_is : (Rows.filterEvenRow.named == Try.prog.varsNamed 12) = true := by kernel_rfl
theorem closed : joinedFacts Try.prog 12 Try.f12 Rows.filterEvenSpec Rows.filterEvenRow = true := by
  unfold joinedFacts
  rw [laid_is, rowed_is, inPlace_is, unfollowed_is, recurses_is, vars_is, plainKeys_is, stopsHeard_is, mayEnter_is, liftsFinal_is, make_is]
  kernel_rfl
theorem instance_is : Try.f12.isInstance Try.prog Rows.filterEvenRow.origin Rows.filterEvenRow.targs := of_decide_eq_true (by kernel_rfl)
theorem wrapper_is : Try.f12.isWrapper Try.prog Rows.filterEvenRow.wrapper Rows.filterEvenRow.mainSum := by unfold Func.isWrapper; first | (rw [if_pos (by decide +kernel)]; kernel_rfl) | (rw [if_neg (by decide +kernel)]; exact ⟨rfl, rfl⟩)
theorem over (walk : Walk) : Rows.filterEvenRow.holds Try.pinned (OpenSpec.ofChange Rows.filterEvenSpec) :=
  OpenClaim.holds_of_wide 12 Try.f12 rfl rfl rfl rfl rfl rfl rfl ⟨rfl, rfl, rfl, rfl, rfl⟩ rfl rfl rfl rfl rfl named_is Try.func12 closed instance_is wrapper_is
    (fun os started H enc _ => lifted walk os started H enc)
end LawFilterEven
theorem FilterEven_holds : Rows.FilterEvenSaid := LawFilterEven.over fun a0_0 a0_1 a0_2 a0_3 a0_4 a0_5 a0_6 a0_7 a0_8 a0_9 a0_10 a0_11 a0_12 a0_13 a0_14 a0_15 a0_16 a0_17 a0_18 a0_19 a0_20 a0_21 a0_22 a0_23 a0_24 a0_25 a0_26 a0_27 a0_28 a0_29 a0_30 a0_31 a0_32 a0_33 a0_34 a0_35 a0_36 a0_37 a0_38 a0_39 a0_40 a0_41 a0_42 a1_0 a1_1 a1_2 a2_0 a2_1 a2_2 a2_3 a2_4 a2_5 a2_6 a2_7 a2_8 a2_9 a2_10 a2_11 a2_12 _ _ _ _ _ _ _ _ _ _ _ _ _ _ _ _ _ _ _ _ _ _ _ _ _ _ _ _ _ _ _ _ _ _ _ _ _ _ _ _ _ _ _ _ _ _ _ _ _ _ _ _ _ _ _ _ _ _ _ w => Go.Ab.FilterEven_calls a0_0 a0_1 a0_2 a0_3 a0_4 a0_5 a0_6 a0_7 a0_8 a0_9 a0_10 a0_11 a0_12 a0_13 a0_14 a0_15 a0_16 a0_17 a0_18 a0_19 a0_20 a0_21 a0_22 a0_23 a0_24 a0_25 a0_26 a0_27 a0_28 a0_29 a0_30 a0_31 a0_32 a0_33 a0_34 a0_35 a0_36 a0_37 a0_38 a0_39 a0_40 a0_41 a0_42 a1_0 a1_1 a1_2 a2_0 a2_1 a2_2 a2_3 a2_4 a2_5 a2_6 a2_7 a2_8 a2_9 a2_10 a2_11 a2_12 w
end Go.Proofs.Ytccgjhdpiaglaaa
