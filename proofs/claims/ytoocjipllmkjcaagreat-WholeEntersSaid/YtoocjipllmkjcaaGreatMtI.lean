/- A part of the proof of 'CraftHolds': lemmas, no statement of their own; no condition. -/
import Derived.Test.YtoocjipllmkjcaaGreatGMtC
import Derived.Test.YtoocjipllmkjcaaGreatMtF
namespace Go.Ab
open Go Go.Proofs
theorem R1v(o:Ops)(b:Bool)(m:M6)(y:R6)(n:Int):fnSum Tryz.prog {gam:=gamN o} mute 20 67 [.ptr 0 0,.val (Cod.enc m),.val (Cod.enc y),.val (.int .i64 n)] (row 57 b)=badT 57 (Cod.enc R6.zero) b n:=by kernel_rfl
theorem ok85:A0h Tryz.prog 67 (S 57 (U0z opsF)):=by
 refine C2x fun (a:M6×R6×Int×Unit)=>?_
 cases hn:okN a.2.2.1 with
 | false =>
  refine ⟨fun p=>!okN p.2.2.1,by simp only[hn,Bool.not_false],?_⟩
  refine C2z (E:={gam:=gamN opsF}) A0u (hB:=mute) U1g 20 fun b p hp=>?_
  obtain ⟨m,y,n,_⟩:=p
  have hp':okN n=false:=by simpa using hp
  refine ((R1v opsF b m y n).trans (R1x hp')).trans ?_
  show _=some (AV.val (Cod.enc (byN R6.zero n b _).1),row 57 (byN R6.zero n b _).2)
  rw[D2v _ _ _ hp']
 | true =>
  rcases B1j hn with h | h | h | h | h | h
  ·refine ⟨fun p=>decide (p.2.2.1=1),by simp only[h,decide_true],?_⟩
   refine K0h (E:={gam:=gamN opsF}) A0u 20 fun b p hp=>?_
   obtain ⟨m,y,n,_⟩:=p
   have hp':n=1:=by simpa using hp
   subst hp'
   refine (D2g opsF b m y).trans ?_
   unfold N0u
   rw[E0n]
   exact E0x 57 R6.zero b (R0e (appN opsF m.at y.at 1 b 1))
  ·refine ⟨fun p=>decide (p.2.2.1=2),by simp only[h,decide_true],?_⟩
   refine K0h (E:={gam:=gamN opsF}) A0u 20 fun b p hp=>?_
   obtain ⟨m,y,n,_⟩:=p
   have hp':n=2:=by simpa using hp
   subst hp'
   refine (D2h opsF b m y).trans ?_
   unfold N0u
   rw[E0n]
   exact E0x 57 R6.zero b (R0e (appN opsF m.at y.at 2 b 2))
  ·refine ⟨fun p=>decide (p.2.2.1=3),by simp only[h,decide_true],?_⟩
   refine K0h (E:={gam:=gamN opsF}) A0u 20 fun b p hp=>?_
   obtain ⟨m,y,n,_⟩:=p
   have hp':n=3:=by simpa using hp
   subst hp'
   refine (D2j opsF b m y).trans ?_
   unfold N0u
   rw[E0n]
   exact E0x 57 R6.zero b (R0e (appN opsF m.at y.at 3 b 3))
  ·refine ⟨fun p=>decide (p.2.2.1=4),by simp only[h,decide_true],?_⟩
   refine K0h (E:={gam:=gamN opsF}) A0u 20 fun b p hp=>?_
   obtain ⟨m,y,n,_⟩:=p
   have hp':n=4:=by simpa using hp
   subst hp'
   refine (D2k opsF b m y).trans ?_
   unfold N0u
   rw[E0n]
   exact E0x 57 R6.zero b (R0e (appN opsF m.at y.at 4 b 4))
  ·refine ⟨fun p=>decide (p.2.2.1=5),by simp only[h,decide_true],?_⟩
   refine K0h (E:={gam:=gamN opsF}) A0u 20 fun b p hp=>?_
   obtain ⟨m,y,n,_⟩:=p
   have hp':n=5:=by simpa using hp
   subst hp'
   refine (D2m opsF b m y).trans ?_
   unfold N0u
   rw[E0n]
   exact E0x 57 R6.zero b (R0e (appN opsF m.at y.at 5 b 5))
  ·refine ⟨fun p=>decide (p.2.2.1=6),by simp only[h,decide_true],?_⟩
   refine K0h (E:={gam:=gamN opsF}) A0u 20 fun b p hp=>?_
   obtain ⟨m,y,n,_⟩:=p
   have hp':n=6:=by simpa using hp
   subst hp'
   refine (D2n opsF b m y).trans ?_
   unfold N0u
   rw[E0n]
   exact E0x 57 R6.zero b (R0e (appN opsF m.at y.at 6 b 6))
end Go.Ab
