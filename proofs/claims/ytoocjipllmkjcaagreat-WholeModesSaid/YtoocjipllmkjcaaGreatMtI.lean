/- A part of the proof of 'WholeModes': lemmas, no statement of their own; no condition. -/
import Derived.Test.YtoocjipllmkjcaaGreatGMtC
import Derived.Test.YtoocjipllmkjcaaGreatMtF
namespace Go.Ab
open Go Go.Proofs
theorem apply85_bad(o:Ops)(b:Bool)(m:M6)(y:R6)(n:Int):fnSum Tryz.prog {gam:=gamN o} mute 20 67 [.ptr 0 0,.val (Cod.enc m),.val (Cod.enc y),.val (.int .i64 n)] (row 57 b)=badT 57 (Cod.enc R6.zero) b n:=by kernel_rfl
theorem ok85:SumOk Tryz.prog 67 (S 57 (matApply opsF)):=by
 refine S_join fun (a:M6×R6×Int×Unit)=>?_
 cases hn:okN a.2.2.1 with
 | false =>
  refine ⟨fun p=>!okN p.2.2.1,by simp only[hn,Bool.not_false],?_⟩
  refine Sc_okH (E:={gam:=gamN opsF}) gamN_ok (hB:=mute) muteFit 20 fun b p hp=>?_
  obtain ⟨m,y,n,_⟩:=p
  have hp':okN n=false:=by simpa using hp
  refine ((apply85_bad opsF b m y n).trans (badT_eq hp')).trans ?_
  show _=some (AV.val (Cod.enc (byN R6.zero n b _).1),row 57 (byN R6.zero n b _).2)
  rw[byN_no _ _ _ hp']
 | true =>
  rcases okN_cases hn with h | h | h | h | h | h
  ·refine ⟨fun p=>decide (p.2.2.1=1),by simp only[h,decide_true],?_⟩
   refine Sc_ok (E:={gam:=gamN opsF}) gamN_ok 20 fun b p hp=>?_
   obtain ⟨m,y,n,_⟩:=p
   have hp':n=1:=by simpa using hp
   subst hp'
   refine (apply85_1 opsF b m y).trans ?_
   unfold applyT
   rw[doneRT_eq]
   exact endT_eq 57 R6.zero b (doneR (appN opsF m.at y.at 1 b 1))
  ·refine ⟨fun p=>decide (p.2.2.1=2),by simp only[h,decide_true],?_⟩
   refine Sc_ok (E:={gam:=gamN opsF}) gamN_ok 20 fun b p hp=>?_
   obtain ⟨m,y,n,_⟩:=p
   have hp':n=2:=by simpa using hp
   subst hp'
   refine (apply85_2 opsF b m y).trans ?_
   unfold applyT
   rw[doneRT_eq]
   exact endT_eq 57 R6.zero b (doneR (appN opsF m.at y.at 2 b 2))
  ·refine ⟨fun p=>decide (p.2.2.1=3),by simp only[h,decide_true],?_⟩
   refine Sc_ok (E:={gam:=gamN opsF}) gamN_ok 20 fun b p hp=>?_
   obtain ⟨m,y,n,_⟩:=p
   have hp':n=3:=by simpa using hp
   subst hp'
   refine (apply85_3 opsF b m y).trans ?_
   unfold applyT
   rw[doneRT_eq]
   exact endT_eq 57 R6.zero b (doneR (appN opsF m.at y.at 3 b 3))
  ·refine ⟨fun p=>decide (p.2.2.1=4),by simp only[h,decide_true],?_⟩
   refine Sc_ok (E:={gam:=gamN opsF}) gamN_ok 20 fun b p hp=>?_
   obtain ⟨m,y,n,_⟩:=p
   have hp':n=4:=by simpa using hp
   subst hp'
   refine (apply85_4 opsF b m y).trans ?_
   unfold applyT
   rw[doneRT_eq]
   exact endT_eq 57 R6.zero b (doneR (appN opsF m.at y.at 4 b 4))
  ·refine ⟨fun p=>decide (p.2.2.1=5),by simp only[h,decide_true],?_⟩
   refine Sc_ok (E:={gam:=gamN opsF}) gamN_ok 20 fun b p hp=>?_
   obtain ⟨m,y,n,_⟩:=p
   have hp':n=5:=by simpa using hp
   subst hp'
   refine (apply85_5 opsF b m y).trans ?_
   unfold applyT
   rw[doneRT_eq]
   exact endT_eq 57 R6.zero b (doneR (appN opsF m.at y.at 5 b 5))
  ·refine ⟨fun p=>decide (p.2.2.1=6),by simp only[h,decide_true],?_⟩
   refine Sc_ok (E:={gam:=gamN opsF}) gamN_ok 20 fun b p hp=>?_
   obtain ⟨m,y,n,_⟩:=p
   have hp':n=6:=by simpa using hp
   subst hp'
   refine (apply85_6 opsF b m y).trans ?_
   unfold applyT
   rw[doneRT_eq]
   exact endT_eq 57 R6.zero b (doneR (appN opsF m.at y.at 6 b 6))
end Go.Ab
