/- The row of 'CraftForeign', out of the walk that stands in the texts imported: the statement as it is given, no condition more. -/
import Derived.Test.YtoocjipllmkjcaaGreatRows
import Derived.ProofKit
import Derived.OpenShut
import Derived.ShutString
import Derived.Test.YtoocjipllmkjcaaGreatGAbM
import Derived.Test.YtoocjipllmkjcaaGreatLvF
import Derived.Test.YtoocjipllmkjcaaGreatHead
namespace Go.Proofs.YtoocjipllmkjcaaGreat
namespace LawCraftForeign
open Go.ChangeShapes Go.WideShapes Go.ChangeAt Go.RowKit Go.Ab
open Go.ChangeMaps (open_string shut_string)
set_option linter.unusedVariables false
theorem own : ownKnob Tryz.prog.godebug = none := by kernel_rfl
theorem laid : laidOutB Tryz.prog = true := laid_is
def Walk : Prop := ∀ (a0_0 : Bool) (a0_1 : Int) (a0_2 : ByteArray) (a0_3 : Int) (a0_4 : Int) (a0_5 : Int) (a0_6 : Int) (a0_7 : Int) (a0_8 : Int) (a0_9 : Bool) (a0_10 : Int) (a0_11 : Int) (a0_12 : Int) (a0_13 : Int) (a0_14 : Int) (a0_15 : Int) (a0_16 : Int) (a0_17 : Bool) (a0_18 : Int) (a0_19 : Int) (a0_20 : Int) (a0_21 : Int) (a0_22 : Int) (a0_23 : Int) (a0_24 : Int) (a0_25 : Int) (a0_26 : Int) (a0_27 : Int) (a0_28 : Int) (a0_29 : Int) (a0_30 : Int) (a0_31 : Int) (a0_32 : Int) (a0_33 : Int) (a0_34 : Int) (a0_35 : Int) (a0_36 : Int) (a0_37 : Int) (a0_38 : Int) (a0_39 : Int) (a0_40 : Int) (a0_41 : Int) (a0_42 : Int) (a0_43 : Int) (a0_44 : Int) (a0_45 : Int) (a0_46 : Int) (a0_47 : Int) (a0_48 : Int) (a0_49 : Int) (a0_50 : Int) (a0_51 : Int) (a0_52 : Int) (a0_53 : Int) (a0_54 : Int) (a0_55 : Int) (a0_56 : Int) (a0_57 : Int) (a0_58 : Int) (a0_59 : Int) (a0_60 : Int) (a0_61 : Int) (a0_62 : Int) (a0_63 : Int) (a0_64 : Int) (a0_65 : Int) (a0_66 : Int) (a0_67 : Int) (a0_68 : Int) (a0_69 : Int) (a0_70 : Int) (a1 : Int) (a2 : ByteArray) (wa0_1 : (Lit.int .i64 a0_1).wf = true) (wa0_2 : a0_2.size ≤ maxLen) (wa0_3 : (Lit.int .i64 a0_3).wf = true) (wa0_4 : (Lit.int .i64 a0_4).wf = true) (wa0_5 : (Lit.int .i64 a0_5).wf = true) (wa0_6 : (Lit.int .i64 a0_6).wf = true) (wa0_7 : (Lit.int .i64 a0_7).wf = true) (wa0_8 : (Lit.int .i64 a0_8).wf = true) (wa0_10 : (Lit.int .i64 a0_10).wf = true) (wa0_11 : (Lit.int .i64 a0_11).wf = true) (wa0_12 : (Lit.int .i64 a0_12).wf = true) (wa0_13 : (Lit.int .i64 a0_13).wf = true) (wa0_14 : (Lit.int .i64 a0_14).wf = true) (wa0_15 : (Lit.int .i64 a0_15).wf = true) (wa0_16 : (Lit.int .i64 a0_16).wf = true) (wa0_18 : (Lit.int .i64 a0_18).wf = true) (wa0_19 : (Lit.int .i64 a0_19).wf = true) (wa0_20 : (Lit.int .i64 a0_20).wf = true) (wa0_21 : (Lit.int .i64 a0_21).wf = true) (wa0_22 : (Lit.int .i64 a0_22).wf = true) (wa0_23 : (Lit.int .i64 a0_23).wf = true) (wa0_24 : (Lit.int .i64 a0_24).wf = true) (wa0_25 : (Lit.int .i64 a0_25).wf = true) (wa0_26 : (Lit.int .i64 a0_26).wf = true) (wa0_27 : (Lit.int .i64 a0_27).wf = true) (wa0_28 : (Lit.int .i64 a0_28).wf = true) (wa0_29 : (Lit.int .i64 a0_29).wf = true) (wa0_30 : (Lit.int .i64 a0_30).wf = true) (wa0_31 : (Lit.int .i64 a0_31).wf = true) (wa0_32 : (Lit.int .i64 a0_32).wf = true) (wa0_33 : (Lit.int .i64 a0_33).wf = true) (wa0_34 : (Lit.int .i64 a0_34).wf = true) (wa0_35 : (Lit.int .i64 a0_35).wf = true) (wa0_36 : (Lit.int .i64 a0_36).wf = true) (wa0_37 : (Lit.int .i64 a0_37).wf = true) (wa0_38 : (Lit.int .i64 a0_38).wf = true) (wa0_39 : (Lit.int .i64 a0_39).wf = true) (wa0_40 : (Lit.int .i64 a0_40).wf = true) (wa0_41 : (Lit.int .i64 a0_41).wf = true) (wa0_42 : (Lit.int .i64 a0_42).wf = true) (wa0_43 : (Lit.int .i64 a0_43).wf = true) (wa0_44 : (Lit.int .i64 a0_44).wf = true) (wa0_45 : (Lit.int .i64 a0_45).wf = true) (wa0_46 : (Lit.int .i64 a0_46).wf = true) (wa0_47 : (Lit.int .i64 a0_47).wf = true) (wa0_48 : (Lit.int .i64 a0_48).wf = true) (wa0_49 : (Lit.int .i64 a0_49).wf = true) (wa0_50 : (Lit.int .i64 a0_50).wf = true) (wa0_51 : (Lit.int .i64 a0_51).wf = true) (wa0_52 : (Lit.int .i64 a0_52).wf = true) (wa0_53 : (Lit.int .i64 a0_53).wf = true) (wa0_54 : (Lit.int .i64 a0_54).wf = true) (wa0_55 : (Lit.int .i64 a0_55).wf = true) (wa0_56 : (Lit.int .i64 a0_56).wf = true) (wa0_57 : (Lit.int .i64 a0_57).wf = true) (wa0_58 : (Lit.int .i64 a0_58).wf = true) (wa0_59 : (Lit.int .i64 a0_59).wf = true) (wa0_60 : (Lit.int .i64 a0_60).wf = true) (wa0_61 : (Lit.int .i64 a0_61).wf = true) (wa0_62 : (Lit.int .i64 a0_62).wf = true) (wa0_63 : (Lit.int .i64 a0_63).wf = true) (wa0_64 : (Lit.int .i64 a0_64).wf = true) (wa0_65 : (Lit.int .i64 a0_65).wf = true) (wa0_66 : (Lit.int .i64 a0_66).wf = true) (wa0_67 : (Lit.int .i64 a0_67).wf = true) (wa0_68 : (Lit.int .i64 a0_68).wf = true) (wa0_69 : (Lit.int .i64 a0_69).wf = true) (wa0_70 : (Lit.int .i64 a0_70).wf = true) (wa1 : (Lit.int .i64 a1).wf = true) (wa2 : a2.size ≤ maxLen) (w : World), Calls Tryz.prog 10 #[.agg #[.bool a0_0, .int .i64 a0_1, .string a0_2, .int .i64 a0_3, .int .i64 a0_4, .int .i64 a0_5, .int .i64 a0_6, .int .i64 a0_7, .int .i64 a0_8, .bool a0_9, .int .i64 a0_10, .int .i64 a0_11, .int .i64 a0_12, .int .i64 a0_13, .int .i64 a0_14, .int .i64 a0_15, .int .i64 a0_16, .bool a0_17, .int .i64 a0_18, .int .i64 a0_19, .int .i64 a0_20, .int .i64 a0_21, .int .i64 a0_22, .int .i64 a0_23, .int .i64 a0_24, .int .i64 a0_25, .int .i64 a0_26, .int .i64 a0_27, .int .i64 a0_28, .int .i64 a0_29, .int .i64 a0_30, .int .i64 a0_31, .int .i64 a0_32, .int .i64 a0_33, .int .i64 a0_34, .int .i64 a0_35, .int .i64 a0_36, .int .i64 a0_37, .int .i64 a0_38, .int .i64 a0_39, .int .i64 a0_40, .int .i64 a0_41, .int .i64 a0_42, .int .i64 a0_43, .int .i64 a0_44, .int .i64 a0_45, .int .i64 a0_46, .int .i64 a0_47, .int .i64 a0_48, .int .i64 a0_49, .int .i64 a0_50, .int .i64 a0_51, .int .i64 a0_52, .int .i64 a0_53, .int .i64 a0_54, .int .i64 a0_55, .int .i64 a0_56, .int .i64 a0_57, .int .i64 a0_58, .int .i64 a0_59, .int .i64 a0_60, .int .i64 a0_61, .int .i64 a0_62, .int .i64 a0_63, .int .i64 a0_64, .int .i64 a0_65, .int .i64 a0_66, .int .i64 a0_67, .int .i64 a0_68, .int .i64 a0_69, .int .i64 a0_70], .int .i64 a1, .string a2] w fun e w' => e = .returned (.bool true) ∧ RowKit.Below w.heap.size w w'
set_option maxRecDepth 100000 in
theorem lifted (walk : Walk) (os : Os) (started : os.Started) (H : Type) (enc : TypeId × Value → H) :
    ReturnsInHanded {} Tryz.checked os 10 .any (Rows.craftForeignSpec.pre6 enc Tryz.prog Tryz.f10 Rows.craftForeignRow.domain false) (Rows.craftForeignSpec.post enc Tryz.prog Tryz.f10 false true false false) := by
  refine returnsInHanded_of_change (C := Tryz.checked) own started (by kernel_rfl) Tryz.func10
    (ChangeSpec.witness6 (enc := enc) (C := Tryz.checked) false ⟨#[], #[.agg #[.bool false, .int .i64 0, .string ⟨#[]⟩, .int .i64 0, .int .i64 0, .int .i64 0, .int .i64 0, .int .i64 0, .int .i64 0, .bool false, .int .i64 0, .int .i64 0, .int .i64 0, .int .i64 0, .int .i64 0, .int .i64 0, .int .i64 0, .bool false, .int .i64 0, .int .i64 0, .int .i64 0, .int .i64 0, .int .i64 0, .int .i64 0, .int .i64 0, .int .i64 0, .int .i64 0, .int .i64 0, .int .i64 0, .int .i64 0, .int .i64 0, .int .i64 0, .int .i64 0, .int .i64 0, .int .i64 0, .int .i64 0, .int .i64 0, .int .i64 0, .int .i64 0, .int .i64 0, .int .i64 0, .int .i64 0, .int .i64 0, .int .i64 0, .int .i64 0, .int .i64 0, .int .i64 0, .int .i64 0, .int .i64 0, .int .i64 0, .int .i64 0, .int .i64 0, .int .i64 0, .int .i64 0, .int .i64 0, .int .i64 0, .int .i64 0, .int .i64 0, .int .i64 0, .int .i64 0, .int .i64 0, .int .i64 0, .int .i64 0, .int .i64 0, .int .i64 0, .int .i64 0, .int .i64 0, .int .i64 0, .int .i64 0, .int .i64 0, .int .i64 0], .int .i64 0, .string ⟨#[]⟩], []⟩ 8 (by kernel_rfl) (by kernel_rfl) (by kernel_rfl) (by kernel_rfl)) ?_
  intro W base args ds gs before hval0 hW hcnd _
  have hval : ∀ (j : Nat) t v, Tryz.f10.params[j]? = some t → args[j]? = some v → Value.okWide Tryz.prog W .any base t v := hval0
  have hW' := hW
  obtain ⟨p, q, hA0, hV, rfl, hfz, hnd⟩ := hW
  have hA : DataW.TrodAll enc Tryz.prog W 0 (fun _ => true) true Tryz.f10.params.toList args.toList ds p := hA0
  rw [Tryz.params10] at hA hval
  obtain ⟨v0, vs0, d0, ds0, p0, q0, hargs, rfl, rfl, h0, r0⟩ := trodAll_cons hA
  obtain ⟨v1, vs1, d1, ds1, p1, q1, rfl, rfl, rfl, h1, r1⟩ := trodAll_cons r0
  obtain ⟨v2, vs2, d2, ds2, p2, q2, rfl, rfl, rfl, h2, r2⟩ := trodAll_cons r1
  obtain ⟨rfl, rfl, rfl⟩ := trodAll_nil r2
  obtain rfl : args = #[v0, v1, v2] := by cases args; simp_all
  obtain ⟨rfl, rfl⟩ := trodVars_none hV
  obtain ⟨rfl, cs0, rfl, hl0⟩ := open_plain (n := 8) (ks := [.bool, .int .i64, .string, .int .i64, .int .i64, .int .i64, .int .i64, .int .i64, .int .i64, .bool, .int .i64, .int .i64, .int .i64, .int .i64, .int .i64, .int .i64, .int .i64, .bool, .int .i64, .int .i64, .int .i64, .int .i64, .int .i64, .int .i64, .int .i64, .int .i64, .int .i64, .int .i64, .int .i64, .int .i64, .int .i64, .int .i64, .int .i64, .int .i64, .int .i64, .int .i64, .int .i64, .int .i64, .int .i64, .int .i64, .int .i64, .int .i64, .int .i64, .int .i64, .int .i64, .int .i64, .int .i64, .int .i64, .int .i64, .int .i64, .int .i64, .int .i64, .int .i64, .int .i64, .int .i64, .int .i64, .int .i64, .int .i64, .int .i64, .int .i64, .int .i64, .int .i64, .int .i64, .int .i64, .int .i64, .int .i64, .int .i64, .int .i64, .int .i64, .int .i64, .int .i64]) (by kernel_rfl) (by kernel_rfl) (hval 0 44 v0 rfl rfl) h0
  obtain ⟨a0_0, ra0_0, rfl, hl0⟩ := hl0
  obtain ⟨a0_1, ra0_1, rfl, wa0_1, hl0⟩ := hl0
  obtain ⟨a0_2, ra0_2, rfl, wa0_2, hl0⟩ := hl0
  obtain ⟨a0_3, ra0_3, rfl, wa0_3, hl0⟩ := hl0
  obtain ⟨a0_4, ra0_4, rfl, wa0_4, hl0⟩ := hl0
  obtain ⟨a0_5, ra0_5, rfl, wa0_5, hl0⟩ := hl0
  obtain ⟨a0_6, ra0_6, rfl, wa0_6, hl0⟩ := hl0
  obtain ⟨a0_7, ra0_7, rfl, wa0_7, hl0⟩ := hl0
  obtain ⟨a0_8, ra0_8, rfl, wa0_8, hl0⟩ := hl0
  obtain ⟨a0_9, ra0_9, rfl, hl0⟩ := hl0
  obtain ⟨a0_10, ra0_10, rfl, wa0_10, hl0⟩ := hl0
  obtain ⟨a0_11, ra0_11, rfl, wa0_11, hl0⟩ := hl0
  obtain ⟨a0_12, ra0_12, rfl, wa0_12, hl0⟩ := hl0
  obtain ⟨a0_13, ra0_13, rfl, wa0_13, hl0⟩ := hl0
  obtain ⟨a0_14, ra0_14, rfl, wa0_14, hl0⟩ := hl0
  obtain ⟨a0_15, ra0_15, rfl, wa0_15, hl0⟩ := hl0
  obtain ⟨a0_16, ra0_16, rfl, wa0_16, hl0⟩ := hl0
  obtain ⟨a0_17, ra0_17, rfl, hl0⟩ := hl0
  obtain ⟨a0_18, ra0_18, rfl, wa0_18, hl0⟩ := hl0
  obtain ⟨a0_19, ra0_19, rfl, wa0_19, hl0⟩ := hl0
  obtain ⟨a0_20, ra0_20, rfl, wa0_20, hl0⟩ := hl0
  obtain ⟨a0_21, ra0_21, rfl, wa0_21, hl0⟩ := hl0
  obtain ⟨a0_22, ra0_22, rfl, wa0_22, hl0⟩ := hl0
  obtain ⟨a0_23, ra0_23, rfl, wa0_23, hl0⟩ := hl0
  obtain ⟨a0_24, ra0_24, rfl, wa0_24, hl0⟩ := hl0
  obtain ⟨a0_25, ra0_25, rfl, wa0_25, hl0⟩ := hl0
  obtain ⟨a0_26, ra0_26, rfl, wa0_26, hl0⟩ := hl0
  obtain ⟨a0_27, ra0_27, rfl, wa0_27, hl0⟩ := hl0
  obtain ⟨a0_28, ra0_28, rfl, wa0_28, hl0⟩ := hl0
  obtain ⟨a0_29, ra0_29, rfl, wa0_29, hl0⟩ := hl0
  obtain ⟨a0_30, ra0_30, rfl, wa0_30, hl0⟩ := hl0
  obtain ⟨a0_31, ra0_31, rfl, wa0_31, hl0⟩ := hl0
  obtain ⟨a0_32, ra0_32, rfl, wa0_32, hl0⟩ := hl0
  obtain ⟨a0_33, ra0_33, rfl, wa0_33, hl0⟩ := hl0
  obtain ⟨a0_34, ra0_34, rfl, wa0_34, hl0⟩ := hl0
  obtain ⟨a0_35, ra0_35, rfl, wa0_35, hl0⟩ := hl0
  obtain ⟨a0_36, ra0_36, rfl, wa0_36, hl0⟩ := hl0
  obtain ⟨a0_37, ra0_37, rfl, wa0_37, hl0⟩ := hl0
  obtain ⟨a0_38, ra0_38, rfl, wa0_38, hl0⟩ := hl0
  obtain ⟨a0_39, ra0_39, rfl, wa0_39, hl0⟩ := hl0
  obtain ⟨a0_40, ra0_40, rfl, wa0_40, hl0⟩ := hl0
  obtain ⟨a0_41, ra0_41, rfl, wa0_41, hl0⟩ := hl0
  obtain ⟨a0_42, ra0_42, rfl, wa0_42, hl0⟩ := hl0
  obtain ⟨a0_43, ra0_43, rfl, wa0_43, hl0⟩ := hl0
  obtain ⟨a0_44, ra0_44, rfl, wa0_44, hl0⟩ := hl0
  obtain ⟨a0_45, ra0_45, rfl, wa0_45, hl0⟩ := hl0
  obtain ⟨a0_46, ra0_46, rfl, wa0_46, hl0⟩ := hl0
  obtain ⟨a0_47, ra0_47, rfl, wa0_47, hl0⟩ := hl0
  obtain ⟨a0_48, ra0_48, rfl, wa0_48, hl0⟩ := hl0
  obtain ⟨a0_49, ra0_49, rfl, wa0_49, hl0⟩ := hl0
  obtain ⟨a0_50, ra0_50, rfl, wa0_50, hl0⟩ := hl0
  obtain ⟨a0_51, ra0_51, rfl, wa0_51, hl0⟩ := hl0
  obtain ⟨a0_52, ra0_52, rfl, wa0_52, hl0⟩ := hl0
  obtain ⟨a0_53, ra0_53, rfl, wa0_53, hl0⟩ := hl0
  obtain ⟨a0_54, ra0_54, rfl, wa0_54, hl0⟩ := hl0
  obtain ⟨a0_55, ra0_55, rfl, wa0_55, hl0⟩ := hl0
  obtain ⟨a0_56, ra0_56, rfl, wa0_56, hl0⟩ := hl0
  obtain ⟨a0_57, ra0_57, rfl, wa0_57, hl0⟩ := hl0
  obtain ⟨a0_58, ra0_58, rfl, wa0_58, hl0⟩ := hl0
  obtain ⟨a0_59, ra0_59, rfl, wa0_59, hl0⟩ := hl0
  obtain ⟨a0_60, ra0_60, rfl, wa0_60, hl0⟩ := hl0
  obtain ⟨a0_61, ra0_61, rfl, wa0_61, hl0⟩ := hl0
  obtain ⟨a0_62, ra0_62, rfl, wa0_62, hl0⟩ := hl0
  obtain ⟨a0_63, ra0_63, rfl, wa0_63, hl0⟩ := hl0
  obtain ⟨a0_64, ra0_64, rfl, wa0_64, hl0⟩ := hl0
  obtain ⟨a0_65, ra0_65, rfl, wa0_65, hl0⟩ := hl0
  obtain ⟨a0_66, ra0_66, rfl, wa0_66, hl0⟩ := hl0
  obtain ⟨a0_67, ra0_67, rfl, wa0_67, hl0⟩ := hl0
  obtain ⟨a0_68, ra0_68, rfl, wa0_68, hl0⟩ := hl0
  obtain ⟨a0_69, ra0_69, rfl, wa0_69, hl0⟩ := hl0
  obtain ⟨a0_70, ra0_70, rfl, wa0_70, hl0⟩ := hl0
  cases hl0
  have k1 := h1
  obtain ⟨a1, rfl, hd1, rfl, wa1⟩ := open_int Tryz.underlying2 (hval 1 2 v1 rfl rfl) h1
  have k2 := h2
  obtain ⟨a2, rfl, hd2, rfl, wa2⟩ := open_string Tryz.underlying9 (hval 2 9 v2 rfl rfl) h2
  clear hA0 hval0
  refine (walk a0_0 a0_1 a0_2 a0_3 a0_4 a0_5 a0_6 a0_7 a0_8 a0_9 a0_10 a0_11 a0_12 a0_13 a0_14 a0_15 a0_16 a0_17 a0_18 a0_19 a0_20 a0_21 a0_22 a0_23 a0_24 a0_25 a0_26 a0_27 a0_28 a0_29 a0_30 a0_31 a0_32 a0_33 a0_34 a0_35 a0_36 a0_37 a0_38 a0_39 a0_40 a0_41 a0_42 a0_43 a0_44 a0_45 a0_46 a0_47 a0_48 a0_49 a0_50 a0_51 a0_52 a0_53 a0_54 a0_55 a0_56 a0_57 a0_58 a0_59 a0_60 a0_61 a0_62 a0_63 a0_64 a0_65 a0_66 a0_67 a0_68 a0_69 a0_70 a1 a2 wa0_1 wa0_2 wa0_3 wa0_4 wa0_5 wa0_6 wa0_7 wa0_8 wa0_10 wa0_11 wa0_12 wa0_13 wa0_14 wa0_15 wa0_16 wa0_18 wa0_19 wa0_20 wa0_21 wa0_22 wa0_23 wa0_24 wa0_25 wa0_26 wa0_27 wa0_28 wa0_29 wa0_30 wa0_31 wa0_32 wa0_33 wa0_34 wa0_35 wa0_36 wa0_37 wa0_38 wa0_39 wa0_40 wa0_41 wa0_42 wa0_43 wa0_44 wa0_45 wa0_46 wa0_47 wa0_48 wa0_49 wa0_50 wa0_51 wa0_52 wa0_53 wa0_54 wa0_55 wa0_56 wa0_57 wa0_58 wa0_59 wa0_60 wa0_61 wa0_62 wa0_63 wa0_64 wa0_65 wa0_66 wa0_67 wa0_68 wa0_69 wa0_70 wa1 wa2 W ).mono fun e W' ⟨he, hb⟩ => ?_
  subst he
  exact ⟨_, rfl, ⟨_, _, _, [], [], [], hW', (trodAll_cons_mk (shut_bool Tryz.underlying4 _) trodAll_mk0), (trodAll_cons_mk (Below.trod laid (by kernel_rfl) (of_decide_eq_true (by kernel_rfl)) h0 hb (by simp)) (trodAll_cons_mk (Below.trod laid (by kernel_rfl) (of_decide_eq_true (by kernel_rfl)) k1 hb (by simp)) (trodAll_cons_mk (Below.trod laid (by kernel_rfl) (of_decide_eq_true (by kernel_rfl)) k2 hb (by simp)) trodAll_mk0))), rfl, hb.frame _, fun h => by cases h⟩⟩
theorem named_is : Tryz.prog.funcNamed Rows.craftForeignRow.func = some 10 := by kernel_rfl
theorem inPlace_is : (Rows.craftForeignRow.inPlace == Tryz.prog.inPlace 10) = true := by kernel_rfl
theorem unfollowed_is : (Rows.craftForeignRow.unfollowed == Tryz.prog.unfollowed 10) = true := by kernel_rfl
theorem recurses_is : (Rows.craftForeignRow.recurses == Tryz.prog.recurses 10) = true := by kernel_rfl
theorem vars_is : (Rows.craftForeignRow.named == Tryz.prog.varsNamed 10) = true := by kernel_rfl
theorem closed : joinedFacts Tryz.prog 10 Tryz.f10 Rows.craftForeignSpec Rows.craftForeignRow = true := by
  unfold joinedFacts
  rw [laid_is, rowed_is, inPlace_is, unfollowed_is, recurses_is, vars_is, plainKeys_is, stopsHeard_is, mayEnter_is, liftsFinal_is, make_is]
  kernel_rfl
theorem instance_is : Tryz.f10.isInstance Tryz.prog Rows.craftForeignRow.origin Rows.craftForeignRow.targs := of_decide_eq_true (by kernel_rfl)
theorem wrapper_is : Tryz.f10.isWrapper Tryz.prog Rows.craftForeignRow.wrapper Rows.craftForeignRow.mainSum := by unfold Func.isWrapper; first | (rw [if_pos (by decide +kernel)]; kernel_rfl) | (rw [if_neg (by decide +kernel)]; exact ⟨rfl, rfl⟩)
theorem over (walk : Walk) : Rows.craftForeignRow.holds Tryz.pinned (OpenSpec.ofChange Rows.craftForeignSpec) :=
  OpenClaim.holds_of_wide 10 Tryz.f10 rfl rfl rfl rfl rfl rfl rfl ⟨rfl, rfl, rfl, rfl, rfl⟩ rfl rfl rfl rfl rfl named_is Tryz.func10 closed instance_is wrapper_is
    (fun os started H enc _ => lifted walk os started H enc)
end LawCraftForeign
theorem CraftForeign_holds : Rows.CraftForeignSaid := LawCraftForeign.over fun a0_0 a0_1 a0_2 a0_3 a0_4 a0_5 a0_6 a0_7 a0_8 a0_9 a0_10 a0_11 a0_12 a0_13 a0_14 a0_15 a0_16 a0_17 a0_18 a0_19 a0_20 a0_21 a0_22 a0_23 a0_24 a0_25 a0_26 a0_27 a0_28 a0_29 a0_30 a0_31 a0_32 a0_33 a0_34 a0_35 a0_36 a0_37 a0_38 a0_39 a0_40 a0_41 a0_42 a0_43 a0_44 a0_45 a0_46 a0_47 a0_48 a0_49 a0_50 a0_51 a0_52 a0_53 a0_54 a0_55 a0_56 a0_57 a0_58 a0_59 a0_60 a0_61 a0_62 a0_63 a0_64 a0_65 a0_66 a0_67 a0_68 a0_69 a0_70 a1 a2 _ _ _ _ _ _ _ _ _ _ _ _ _ _ _ _ _ _ _ _ _ _ _ _ _ _ _ _ _ _ _ _ _ _ _ _ _ _ _ _ _ _ _ _ _ _ _ _ _ _ _ _ _ _ _ _ _ _ _ _ _ _ _ _ _ _ _ _ _ _ w => Go.Ab.CraftForeign_calls a0_0 a0_1 a0_2 a0_3 a0_4 a0_5 a0_6 a0_7 a0_8 a0_9 a0_10 a0_11 a0_12 a0_13 a0_14 a0_15 a0_16 a0_17 a0_18 a0_19 a0_20 a0_21 a0_22 a0_23 a0_24 a0_25 a0_26 a0_27 a0_28 a0_29 a0_30 a0_31 a0_32 a0_33 a0_34 a0_35 a0_36 a0_37 a0_38 a0_39 a0_40 a0_41 a0_42 a0_43 a0_44 a0_45 a0_46 a0_47 a0_48 a0_49 a0_50 a0_51 a0_52 a0_53 a0_54 a0_55 a0_56 a0_57 a0_58 a0_59 a0_60 a0_61 a0_62 a0_63 a0_64 a0_65 a0_66 a0_67 a0_68 a0_69 a0_70 a1 a2 w
end Go.Proofs.YtoocjipllmkjcaaGreat
