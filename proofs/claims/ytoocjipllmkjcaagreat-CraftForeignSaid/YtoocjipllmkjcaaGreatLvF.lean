/- A part of the proof of 'CraftForeign': lemmas, no statement of their own; no condition. -/
import Derived.Test.YtoocjipllmkjcaaGreatOpn
import Derived.Test.YtoocjipllmkjcaaGreatCrY
set_option linter.unusedSimpArgs false
namespace Go.Ab
open Go Go.Proofs
def cfGam : Gam:=cfG true craftPre craftV
theorem cfGam_ok : GamOk Tryz.prog cfGam:=.cons okAwakeC (.cons okCraft .nil)
section
variable (c : Crf) (tk : Int) (b : ByteArray)
theorem hear_none (x : CX) (hx : x.2.1.left = ⟨#[]⟩) (h : ∀ j,j < b.data.toList.length→b.data.toList.getD j 0 ≠ 165) : hearO HR x (b,()) = bif decide ((b.data.toList.length : Int) > 0) then rejX (x.1,{ x.2.1 with left:=⟨#[]⟩ },x.2.2) else (x.1,{ x.2.1 with left:=⟨#[]⟩ },x.2.2):=by
  have e : (x.2.1.left ++ b).data.toList = b.data.toList:=by rw [hx]; simp
  unfold hearO hearS hearHead
  dsimp only
  rw [e,scan_none h]
  rfl
def cfX0 (c : Crf) (tk : Int) : CX:=(stp1 c tk,{ c with left:=⟨#[]⟩ },rds0)
theorem cf_h0 (hl : c.left = ⟨#[]⟩) : cstH ST c tk ⟨#[]⟩ = cfX0 c tk:=hear_none ⟨#[]⟩ (stp1 c tk,c,rds0) hl fun j hj=>by simp at hj
theorem cf_h1 (hl : c.left = ⟨#[]⟩) (h : ∀ j,j < b.data.toList.length→b.data.toList.getD j 0 ≠ 165) (hn : 0 < b.size) : cstH ST c tk b = wrX (rejV c.rej) (cfX0 c tk):=by
  have h1:=hear_none b (stp1 c tk,c,rds0) hl h
  have hs : b.data.toList.length = b.size:=rfl
  rw [decide_eq_true (by omega),cond_true] at h1
  exact h1
theorem rejV_is (h0 : 0 ≤ c.rej) (h1 : c.rej < 65535) : rejV c.rej = c.rej + 1 ∧ IntKind.i64.wrap (c.rej + 1) = c.rej + 1:=by
  have : IntKind.i64.wrap (c.rej + 1) = c.rej + 1:=by rw [wrapM]; omega
  refine ⟨?_,this⟩
  unfold rejV
  rw [if_neg (by omega)]
  exact this
theorem cf_pre (hl : c.left = ⟨#[]⟩) (hb : b.size ≤ 1000) (h : b.size = 0 ∨ ∀ j,j < b.data.toList.length→b.data.toList.getD j 0 ≠ 165) : craftPre (c,tk,b,()) = true:=by
  unfold craftPre stepPreO
  dsimp only
  cases lateX c ST.rt tk with
  | true=>rfl
  | false =>
    have h1 : ST.hp (stp1 c tk,c,rds0) (b,()) = true:=by
      show decide (c.left.size + b.size ≤ 1099511627776) = true
      rw [hl]
      exact decide_eq_true (by show 0 + b.size ≤ _; omega)
    have hnone : ∀ j,j < b.data.toList.length→b.data.toList.getD j 0 ≠ 165:=by
      rcases h with h | h
      · intro j hj
        have : b.data.toList.length = b.size:=rfl
        omega
      · exact h
    have h2 : driftOk ST (cstH ST c tk b) = true:=by
      have e : (cstH ST c tk b).2.2 = rds0:=by
        have:=hear_none b (stp1 c tk,c,rds0) hl hnone
        show (hearO HR (stp1 c tk,c,rds0) (b,())).2.2 = rds0
        rw [this]
        cases decide ((b.data.toList.length : Int) > 0) <;> rfl
      unfold driftOk
      rw [e]
      rfl
    rw [cond_false,h1,h2]
    rfl
theorem toList_empty : (⟨#[]⟩ : ByteArray).toList = []:=by rw [ByteArray.toList_eq]
theorem told_ne (x : CX) : ((cstT ST x).toList == (⟨#[]⟩ : ByteArray).toList) = false:=by
  obtain ⟨l,h⟩:=told_some x
  rw [h,ByteArray.toList_eq,data_bsL,toList_empty]
  rfl
theorem cf_loop (hb : b.size ≤ 1000) : (∀ j,j < b.data.toList.length→b.data.toList.getD j 0 ≠ 165)→∃ i,RunsTo Tryz.prog 77 (.block 0 (.loop cfLB)) (cfS c tk b [(6,.val (.bool false)),(7,.val (.int .i64 0))]) .normal (cfS c tk b [(6,.val (.bool false)),(7,.val (.int .i64 i))]):=by
  intro h
  have hs : b.data.toList.length = b.size:=rfl
  refine ⟨(b.size : Int),RunsTo.block (e:=.exit 0) (RunsTo.loop (ι:={ i : Nat // i ≤ b.size }) (fun i=>cfS c tk b [(6,.val (.bool false)),(7,.val (.int .i64 (i.1 : Nat)))]) (fun i=>b.size - i.1) (fun _=>cfS c tk b [(6,.val (.bool false)),(7,.val (.int .i64 (b.size : Nat)))]) (.exit 0) (fun i=>?_) ⟨0,Nat.zero_le _⟩) (.inr rfl)⟩
  obtain ⟨i,hi⟩:=i
  have hq:=cf_qL true craftPre craftV c tk i b
  by_cases hlt : i < b.size
  · refine .inl ⟨⟨i + 1,hlt⟩,by dsimp only; omega,rfl,?_⟩
    rw [decide_eq_true (by omega),decide_eq_true (by omega),cond_true,cond_true] at hq
    have hne : (((b.data.toList.getD (i : Int).toNat 0).toNat : Int) == 165) = false:=by
      rw [Int.toNat_natCast]
      have h1:=h i (by omega)
      apply beq_eq_false_iff_ne.2
      intro h2
      apply h1
      apply UInt8.toNat_inj.1
      show _ = 165
      omega
    rw [hne,cond_false] at hq
    have hw : IntKind.i64.wrap ((i : Int) + 1) = ((i + 1 : Nat) : Int):=by rw [wrapM]; omega
    rw [hw] at hq
    exact gRun_runs (E:={ gam:=cfGam }) cfGam_ok hq
  · have hi' : i = b.size:=by omega
    subst hi'
    rw [decide_eq_false (by omega),cond_false] at hq
    exact .inr ⟨gRun_runs (E:={ gam:=cfGam }) cfGam_ok hq,by simp⟩
theorem cf_loopR (hb : b.size ≤ 1000) : ¬ (∀ j,j < b.data.toList.length→b.data.toList.getD j 0 ≠ 165)→∃ i,RunsTo Tryz.prog 77 (.block 0 (.loop cfLB)) (cfS c tk b [(6,.val (.bool false)),(7,.val (.int .i64 0))]) .ret (cfS c tk b [(6,.val (.bool true)),(7,.val (.int .i64 i))]):=by
  intro h
  have hs : b.data.toList.length = b.size:=rfl
  have hex : ∃ j,j < b.size ∧ b.data.toList.getD j 0 = 165:=by
    apply Classical.byContradiction
    intro hn
    exact h fun j hj he=>hn ⟨j,hj,he⟩
  obtain ⟨m,⟨hm1,hm2⟩,hmin⟩:=least_of (fun j=>j < b.size ∧ b.data.toList.getD j 0 = 165) hex
  refine ⟨(m : Int),?_⟩
  have hl:=RunsTo.loop (P:=Tryz.prog) (N:=77) (c:=cfLB) (ι:={ i : Nat // i ≤ m }) (fun i=>cfS c tk b [(6,.val (.bool false)),(7,.val (.int .i64 (i.1 : Nat)))]) (fun i=>m - i.1) (fun _=>cfS c tk b [(6,.val (.bool true)),(7,.val (.int .i64 (m : Nat)))]) .ret (fun i=>?_) ⟨0,Nat.zero_le _⟩
  · intro w0 own σ0 lo0 hi0 a w hst Q hQ
    exact wp_block (hl w0 own σ0 lo0 hi0 a w hst _ fun a' w' h'=>hQ a' w' h')
  · obtain ⟨i,hi⟩:=i
    have hq:=cf_qL true craftPre craftV c tk i b
    rw [decide_eq_true (by omega),decide_eq_true (by omega),cond_true,cond_true,Int.toNat_natCast] at hq
    by_cases hlt : i < m
    · refine .inl ⟨⟨i + 1,hlt⟩,by dsimp only; omega,rfl,?_⟩
      have hne : (((b.data.toList.getD i 0).toNat : Int) == 165) = false:=by
        have h1 : ¬ (i < b.size ∧ b.data.toList.getD i 0 = 165):=hmin i hlt
        apply beq_eq_false_iff_ne.2
        intro h2
        apply h1
        refine ⟨by omega,UInt8.toNat_inj.1 ?_⟩
        show _ = 165
        omega
      rw [hne,cond_false] at hq
      have hw : IntKind.i64.wrap ((i : Int) + 1) = ((i + 1 : Nat) : Int):=by rw [wrapM]; omega
      rw [hw] at hq
      exact gRun_runs (E:={ gam:=cfGam }) cfGam_ok hq
    · have hi' : i = m:=by omega
      subst hi'
      rw [hm2] at hq
      exact .inr ⟨gRun_runs (E:={ gam:=cfGam }) cfGam_ok hq,by simp⟩
theorem cf_true : ∃ s',RunsTo Tryz.prog 77 (.seq (cfL 0) (.seq (cfL 1) (.seq (cfL 2) (.seq (cfL 3) (.seq (.seq (seqL (cfL 4)) (.block 0 (.loop cfLB))) (.seq (cfL 5) (.seq (cfL 6) (.seq (cfL 7) (.seq (cfL 8) (cfR 9)))))))))) (startS 77 [.val (Cod.enc c),.val (.int .i64 tk),.val (.string b)] []) .ret s' ∧ resA Tryz.prog s' Tryz.f10.results.toList = some [.val (.bool true)]:=by
  have gr : ∀ {cd : Code} {s s1 : St} {ks ts : List Nat} {e : Ex},cfRun true craftPre craftV cd s ks ts = some (e,s1)→RunsTo Tryz.prog 77 cd s e s1:=fun h=>gRun_runs (E:={ gam:=cfGam }) cfGam_ok h
  have h0:=gr (cf_q0 true craftPre craftV c tk b)
  have h1:=gr (cf_q1 true craftPre craftV c tk b)
  have h2:=gr (cf_q2 true craftPre craftV c tk b)
  generalize hc0 : ({ c with left:=⟨#[]⟩ } : Crf) = c0 at h2
  have hl : c0.left = ⟨#[]⟩:=by rw [← hc0]
  have h3:=cf_q3 true craftPre craftV c0 tk b
  unfold cfYes at h3
  cases k1 : ((b.size : Int) == 0) with
  | true =>
    rw [k1,cond_true] at h3
    exact ⟨_,.seq h0 (.seq h1 (.seq h2 (RunsTo.seqR (gr h3)))),cf_resS ..⟩
  | false =>
  rw [k1,cond_false] at h3
  cases k2 : decide ((b.size : Int) > 1000) with
  | true =>
    rw [k2,cond_true] at h3
    exact ⟨_,.seq h0 (.seq h1 (.seq h2 (RunsTo.seqR (gr h3)))),cf_resS ..⟩
  | false =>
  rw [k2,cond_false] at h3
  cases k3 : decide (c0.rej < 0) with
  | true =>
    rw [k3,cond_true] at h3
    exact ⟨_,.seq h0 (.seq h1 (.seq h2 (RunsTo.seqR (gr h3)))),cf_resS ..⟩
  | false =>
  rw [k3,cond_false] at h3
  cases k4 : decide (c0.rej ≥ 65535) with
  | true =>
    rw [k4,cond_true] at h3
    exact ⟨_,.seq h0 (.seq h1 (.seq h2 (RunsTo.seqR (gr h3)))),cf_resS ..⟩
  | false =>
  rw [k4,cond_false] at h3
  have n1 : (b.size : Int) ≠ 0:=by simpa using k1
  have n2 : ¬ (b.size : Int) > 1000:=of_decide_eq_false k2
  have n3 : ¬ c0.rej < 0:=of_decide_eq_false k3
  have n4 : ¬ c0.rej ≥ 65535:=of_decide_eq_false k4
  have h4:=gr (cf_q4 true craftPre craftV c0 tk b)
  by_cases hA : ∀ j,j < b.data.toList.length→b.data.toList.getD j 0 ≠ 165
  · obtain ⟨i,h5⟩:=cf_loop c0 tk b (by omega) hA
    have p0:=cf_pre c0 tk ⟨#[]⟩ hl (by show 0 ≤ 1000; omega) (.inl rfl)
    have p1:=cf_pre c0 tk b hl (by omega) (.inr hA)
    have h6:=cf_q5 true craftPre craftV c0 tk i b
    rw [p0,cond_true] at h6
    have h7:=cf_q6 true craftPre craftV c0 tk b (craftV (c0,tk,⟨#[]⟩,()))
    rw [p1,cond_true] at h7
    have pre : ∀ {s'},RunsTo Tryz.prog 77 (.seq (cfL 7) (.seq (cfL 8) (cfR 9))) (cfU (craftV (c0,tk,⟨#[]⟩,())) (craftV (c0,tk,b,()))) .ret s'→RunsTo Tryz.prog 77 (.seq (cfL 0) (.seq (cfL 1) (.seq (cfL 2) (.seq (cfL 3) (.seq (.seq (seqL (cfL 4)) (.block 0 (.loop cfLB))) (.seq (cfL 5) (.seq (cfL 6) (.seq (cfL 7) (.seq (cfL 8) (cfR 9)))))))))) (startS 77 [.val (Cod.enc c),.val (.int .i64 tk),.val (.string b)] []) .ret s':=fun h =>
      .seq h0 (.seq h1 (.seq h2 (.seq (gr h3) (.seq (.seq h4 h5) (.seq (gr h6) (.seq (gr h7) h))))))
    cases hlate : lateX c0 ST.rt tk with
    | true =>
      have e : ∀ b',craftV (c0,tk,b',()) = ⟨c0,⟨#[]⟩⟩:=by
        intro b'
        unfold craftV stepO
        dsimp only
        rw [hlate]
        rfl
      rw [e,e] at pre
      have h8:=cf_q7 true craftPre craftV ⟨c0,⟨#[]⟩⟩ ⟨c0,⟨#[]⟩⟩
      rw [toList_empty,show (([] : List UInt8) == []) = true from rfl,cond_true,cond_true,crfK_self] at h8
      exact ⟨_,pre (RunsTo.seqR (gr h8)),cf_resU ..⟩
    | false =>
      have e0 : craftV (c0,tk,⟨#[]⟩,()) = ⟨(endX ST tk (cfX0 c0 tk)).2.1,cstT ST (endX ST tk (cfX0 c0 tk))⟩:=by
        unfold craftV stepO
        dsimp only
        rw [hlate,cond_false,cf_h0 c0 tk hl]
      have e1 : craftV (c0,tk,b,()) = ⟨{ (endX ST tk (cfX0 c0 tk)).2.1 with rej:=rejV c0.rej },cstT ST (wrX (rejV c0.rej) (endX ST tk (cfX0 c0 tk)))⟩:=by
        unfold craftV stepO
        dsimp only
        rw [hlate,cond_false,cf_h1 c0 tk b hl hA (by omega),wr_end]
        rfl
      rw [e0,e1] at pre
      have hr : (endX ST tk (cfX0 c0 tk)).2.1.rej = c0.rej:=end_rej tk (cfX0 c0 tk)
      generalize ha : (endX ST tk (cfX0 c0 tk)).2.1 = a at *
      obtain ⟨r1,r2⟩:=rejV_is c0 (by omega) (by omega)
      have h8:=cf_q7 true craftPre craftV ⟨a,cstT ST (endX ST tk (cfX0 c0 tk))⟩ ⟨{ a with rej:=rejV c0.rej },cstT ST (wrX (rejV c0.rej) (endX ST tk (cfX0 c0 tk)))⟩
      dsimp only at h8
      rw [told_ne,cond_false] at h8
      have h9:=cf_q8 true craftPre craftV ⟨a,cstT ST (endX ST tk (cfX0 c0 tk))⟩ ⟨{ a with rej:=rejV c0.rej },cstT ST (wrX (rejV c0.rej) (endX ST tk (cfX0 c0 tk)))⟩
      dsimp only at h9
      rw [hr,r1,r2,bne_self_eq_false,cond_false] at h9
      have h10:=cf_q9 true craftPre craftV ⟨a,cstT ST (endX ST tk (cfX0 c0 tk))⟩ ⟨{ a with rej:=rejV c0.rej },cstT ST (wrX (rejV c0.rej) (endX ST tk (cfX0 c0 tk)))⟩
      dsimp only at h10
      rw [crfK_self] at h10
      rw [r1] at h8 h10 pre
      exact ⟨_,pre (.seq (gr h8) (.seq (gr h9) (gr h10))),cf_resB ..⟩
  · obtain ⟨i,h5⟩:=cf_loopR c0 tk b (by omega) hA
    exact ⟨_,.seq h0 (.seq h1 (.seq h2 (.seq (gr h3) (RunsTo.seqR (.seq h4 h5))))),cf_resS ..⟩
theorem cf_calls (w : World) : Calls Tryz.prog 10 (List.toArray [Cod.enc c,.int .i64 tk,.string b]) w fun e w'=>e = .returned (.bool true) ∧ RowKit.Below w.heap.size w w':=by
  obtain ⟨s',h1,h2⟩:=cf_true c tk b
  exact calls_of_facts (vals:=[Cod.enc c,.int .i64 tk,.string b]) (sum_runs (cs:=[]) (cs':=[]) cf_at cf_is cf_N (by show 3 ≤ 77; omega) (by simp) rfl rfl rfl (.inr rfl) h1 h2 rfl rfl (fun _ _ h=>by simp at h) rfl rfl).2 w
end
set_option maxRecDepth 8000 in
theorem CraftForeign_calls (a0_0 : Bool) (a0_1 : Int) (a0_2 : ByteArray) (a0_3 : Int) (a0_4 : Int) (a0_5 : Int) (a0_6 : Int) (a0_7 : Int) (a0_8 : Int) (a0_9 : Bool) (a0_10 : Int) (a0_11 : Int) (a0_12 : Int) (a0_13 : Int) (a0_14 : Int) (a0_15 : Int) (a0_16 : Int) (a0_17 : Bool) (a0_18 : Int) (a0_19 : Int) (a0_20 : Int) (a0_21 : Int) (a0_22 : Int) (a0_23 : Int) (a0_24 : Int) (a0_25 : Int) (a0_26 : Int) (a0_27 : Int) (a0_28 : Int) (a0_29 : Int) (a0_30 : Int) (a0_31 : Int) (a0_32 : Int) (a0_33 : Int) (a0_34 : Int) (a0_35 : Int) (a0_36 : Int) (a0_37 : Int) (a0_38 : Int) (a0_39 : Int) (a0_40 : Int) (a0_41 : Int) (a0_42 : Int) (a0_43 : Int) (a0_44 : Int) (a0_45 : Int) (a0_46 : Int) (a0_47 : Int) (a0_48 : Int) (a0_49 : Int) (a0_50 : Int) (a0_51 : Int) (a0_52 : Int) (a0_53 : Int) (a0_54 : Int) (a0_55 : Int) (a0_56 : Int) (a0_57 : Int) (a0_58 : Int) (a0_59 : Int) (a0_60 : Int) (a0_61 : Int) (a0_62 : Int) (a0_63 : Int) (a0_64 : Int) (a0_65 : Int) (a0_66 : Int) (a0_67 : Int) (a0_68 : Int) (a0_69 : Int) (a0_70 : Int) (a1 : Int) (a2 : ByteArray) (w : World) : Calls Tryz.prog 10 #[.agg #[.bool a0_0,.int .i64 a0_1,.string a0_2,.int .i64 a0_3,.int .i64 a0_4,.int .i64 a0_5,.int .i64 a0_6,.int .i64 a0_7,.int .i64 a0_8,.bool a0_9,.int .i64 a0_10,.int .i64 a0_11,.int .i64 a0_12,.int .i64 a0_13,.int .i64 a0_14,.int .i64 a0_15,.int .i64 a0_16,.bool a0_17,.int .i64 a0_18,.int .i64 a0_19,.int .i64 a0_20,.int .i64 a0_21,.int .i64 a0_22,.int .i64 a0_23,.int .i64 a0_24,.int .i64 a0_25,.int .i64 a0_26,.int .i64 a0_27,.int .i64 a0_28,.int .i64 a0_29,.int .i64 a0_30,.int .i64 a0_31,.int .i64 a0_32,.int .i64 a0_33,.int .i64 a0_34,.int .i64 a0_35,.int .i64 a0_36,.int .i64 a0_37,.int .i64 a0_38,.int .i64 a0_39,.int .i64 a0_40,.int .i64 a0_41,.int .i64 a0_42,.int .i64 a0_43,.int .i64 a0_44,.int .i64 a0_45,.int .i64 a0_46,.int .i64 a0_47,.int .i64 a0_48,.int .i64 a0_49,.int .i64 a0_50,.int .i64 a0_51,.int .i64 a0_52,.int .i64 a0_53,.int .i64 a0_54,.int .i64 a0_55,.int .i64 a0_56,.int .i64 a0_57,.int .i64 a0_58,.int .i64 a0_59,.int .i64 a0_60,.int .i64 a0_61,.int .i64 a0_62,.int .i64 a0_63,.int .i64 a0_64,.int .i64 a0_65,.int .i64 a0_66,.int .i64 a0_67,.int .i64 a0_68,.int .i64 a0_69,.int .i64 a0_70],.int .i64 a1,.string a2] w fun e w'=>e = .returned (.bool true) ∧ RowKit.Below w.heap.size w w' :=
  cf_calls ⟨a0_0,a0_1,a0_2,⟨a0_3,a0_4,a0_5,a0_6,a0_7,a0_8⟩,a0_9,⟨a0_10,a0_11,a0_12,a0_13,a0_14,a0_15,a0_16⟩,⟨a0_17,a0_18,⟨a0_19,a0_20,a0_21⟩,⟨a0_22,a0_23,a0_24⟩⟩,⟨⟨a0_25,a0_26,a0_27,a0_28⟩,⟨a0_29,a0_30,a0_31⟩,⟨⟨a0_32,a0_33,a0_34,a0_35,a0_36,a0_37⟩,⟨a0_38,a0_39,a0_40,a0_41,a0_42,a0_43⟩,⟨a0_44,a0_45,a0_46,a0_47,a0_48,a0_49⟩,⟨a0_50,a0_51,a0_52,a0_53,a0_54,a0_55⟩,⟨a0_56,a0_57,a0_58,a0_59,a0_60,a0_61⟩,⟨a0_62,a0_63,a0_64,a0_65,a0_66,a0_67⟩⟩⟩,a0_68,a0_69,a0_70⟩ a1 a2 w
end Go.Ab
