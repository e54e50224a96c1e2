/- A part of the proof of 'CraftForeign': lemmas, no statement of their own; no condition. -/
import Derived.Test.YtoocjipllmkjcaaGreatGAbY
set_option linter.unusedSimpArgs false
namespace Go.Ab
open Go Go.Proofs
noncomputable def cfR : Nat→Code
  | 0=>Tryz.f10.body.getD .skip
  | k + 1=>seqR (cfR k)
noncomputable def cfL (k : Nat) : Code:=seqL (cfR k)
noncomputable def cfLB : Code:=inB (inB (seqR (cfL 4)))
theorem cf_is : Tryz.f10.body = some (.seq (cfL 0) (.seq (cfL 1) (.seq (cfL 2) (.seq (cfL 3) (.seq (.seq (seqL (cfL 4)) (.block 0 (.loop cfLB))) (.seq (cfL 5) (.seq (cfL 6) (.seq (cfL 7) (.seq (cfL 8) (cfR 9))))))))) ):=by kernel_rfl
theorem cf_N : Tryz.f10.ntmps = 77:=by kernel_rfl
theorem cf_at : Tryz.prog.funcs[10]? = some Tryz.f10:=by kernel_rfl
def cfN1 : Nat:=4096 + 1 * 2 ^ 180
def cfN2 : Nat:=4096 + 2 * 2 ^ 180
def cfN3 : Nat:=4096 + 3 * 2 ^ 180
def cfG (aw : Bool) (pre : StpA→Bool) (g : StpA→Two Crf ByteArray) : Gam:=[(23,S0 fun (_ : Unit)=>aw),(25,S0w pre g)]
def cfS (c : Crf) (tk : Int) (b : ByteArray) (tm : List (Nat × AV)) : St:=gSt 77 ([(1,.val (.int .i64 tk)),(2,.val (.string b)),(3,.ptr 4096 0)] ++ tm) [(4096,.row 44 (crfRow c))] cfN1
def cfB (v : Bool) (lo : Nat) : St:=gSt 77 [(6,.val (.bool v))] [] lo
def cfT (c : Crf) (tk : Int) (b : ByteArray) (x : Two Crf ByteArray) : St:=gSt 77 [(1,.val (.int .i64 tk)),(2,.val (.string b)),(3,.ptr 4096 0),(6,.val (.bool false)),(8,.ptr cfN1 0),(9,.val (.string x.b))] [(4096,.row 44 (crfRow c)),(cfN1,.row 44 (crfRow x.a))] cfN2
def cfU (x y : Two Crf ByteArray) : St:=gSt 77 [(6,.val (.bool false)),(8,.ptr cfN1 0),(9,.val (.string x.b)),(10,.ptr cfN2 0),(11,.val (.string y.b))] [(cfN1,.row 44 (crfRow x.a)),(cfN2,.row 44 (crfRow y.a))] cfN3
def eqK : List Int→List Int→Bool
  | a :: r,b :: t=>a == b && eqK r t
  | _,_=>true
theorem eqK_self : ∀ l : List Int,eqK l l = true
  | []=>rfl
  | a :: r=>by simp [eqK,eqK_self r]
def r6L (r : R6) : List Int:=[r.a,r.b,r.c,r.d,r.e,r.f]
def gsK (a b : Gs) : Bool:=eqK [a.q.w,a.q.x,a.q.y,a.q.z] [b.q.w,b.q.x,b.q.y,b.q.z] && (eqK [a.bias.x,a.bias.y,a.bias.z] [b.bias.x,b.bias.y,b.bias.z] &&
  ((eqK (r6L a.p.a) (r6L b.p.a) && (eqK (r6L a.p.b) (r6L b.p.b) && (eqK (r6L a.p.c) (r6L b.p.c) && (eqK (r6L a.p.d) (r6L b.p.d) && (eqK (r6L a.p.e) (r6L b.p.e) && (eqK (r6L a.p.f) (r6L b.p.f) && true)))))) && true))
def plK (a b : Pl) : Bool:=eqK [a.mode,a.calm,a.good,a.miss,a.lost,a.faults] [b.mode,b.calm,b.good,b.miss,b.lost,b.faults]
def orK (a b : Orb) : Bool:=eqK [a.a,a.e,a.i,a.node,a.peri,a.m,a.tk] [b.a,b.e,b.i,b.node,b.peri,b.m,b.tk]
def drK (a b : Dr) : Bool:=a.on == b.on && (a.tick == b.tick && (eqK [a.last.x,a.last.y,a.last.z] [b.last.x,b.last.y,b.last.z] && (eqK [a.rate.x,a.rate.y,a.rate.z] [b.rate.x,b.rate.y,b.rate.z] && true)))
def crfK (a b : Crf) : Bool:=a.on == b.on && (a.tk == b.tk && (a.left == b.left && (plK a.plan b.plan && (a.placed == b.placed && (orK a.orb b.orb && (drK a.drift b.drift && (gsK a.guess b.guess && (a.ack == b.ack && (a.err == b.err && (a.rej == b.rej && true))))))))))
theorem ba_self (s : ByteArray) : (s == s) = true:=by
  unfold BEq.beq
  show (s.data == s.data) = true
  exact beq_self_eq_true s.data
theorem crfK_self (a : Crf) : crfK a a = true:=by simp [crfK,plK,orK,drK,gsK,eqK_self,ba_self]
section
variable (aw : Bool) (pre : StpA→Bool) (g : StpA→Two Crf ByteArray) (c : Crf) (tk i : Int) (b : ByteArray) (x y : Two Crf ByteArray)
noncomputable abbrev cfRun (aw : Bool) (pre : StpA→Bool) (g : StpA→Two Crf ByteArray) (c : Code) (s : St) (ks ts : List Nat) : Option (Ex × St):=gRun Tryz.prog { gam:=cfG aw pre g } 77 c s ks ts
theorem cf_q0 : cfRun aw pre g (cfL 0) (startS 77 [.val (Cod.enc c),.val (.int .i64 tk),.val (.string b)] []) [4096] [1,2,3,6] = some (.normal,cfS c tk b [(6,.val (.bool false))]):=by kernel_rfl
theorem cf_q1 : cfRun aw pre g (cfL 1) (cfS c tk b [(6,.val (.bool false))]) [4096] [1,2,3,6] = bif !aw then some (.ret,cfS c tk b [(6,.val (.bool false))]) else some (.normal,cfS c tk b [(6,.val (.bool false))]):=by kernel_rfl
theorem cf_q2 : cfRun aw pre g (cfL 2) (cfS c tk b [(6,.val (.bool false))]) [4096] [1,2,3,6] = some (.normal,cfS { c with left:=⟨#[]⟩ } tk b [(6,.val (.bool false))]):=by kernel_rfl
def cfYes (c : Crf) (tk : Int) (b : ByteArray) : Option (Ex × St):=some (.ret,cfS c tk b [(6,.val (.bool true))])
theorem cf_q3 : cfRun aw pre g (cfL 3) (cfS c tk b [(6,.val (.bool false))]) [4096] [1,2,3,6] = bif (b.size : Int) == 0 then cfYes c tk b else bif decide ((b.size : Int) > 1000) then cfYes c tk b else bif decide (c.rej < 0) then cfYes c tk b else bif decide (c.rej ≥ 65535) then cfYes c tk b else some (.normal,cfS c tk b [(6,.val (.bool false))]):=by kernel_rfl
theorem cf_q4 : cfRun aw pre g (seqL (cfL 4)) (cfS c tk b [(6,.val (.bool false))]) [4096] [1,2,3,6,7] = some (.normal,cfS c tk b [(6,.val (.bool false)),(7,.val (.int .i64 0))]):=by kernel_rfl
theorem cf_qL : cfRun aw pre g cfLB (cfS c tk b [(6,.val (.bool false)),(7,.val (.int .i64 i))]) [4096] [1,2,3,6,7] = bif decide (i < (b.size : Int)) then bif decide (0 ≤ i ∧ i < (b.size : Int)) then bif ((b.data.toList.getD i.toNat 0).toNat : Int) == 165 then some (.ret,cfS c tk b [(6,.val (.bool true)),(7,.val (.int .i64 i))]) else some (.normal,cfS c tk b [(6,.val (.bool false)),(7,.val (.int .i64 (IntKind.i64.wrap (i + 1))))]) else none
    else some (.exit 0,cfS c tk b [(6,.val (.bool false)),(7,.val (.int .i64 i))]):=by kernel_rfl
theorem cf_q5 : cfRun aw pre g (cfL 5) (cfS c tk b [(6,.val (.bool false)),(7,.val (.int .i64 i))]) [4096,cfN1] [1,2,3,6,8,9] = bif pre (c,tk,⟨#[]⟩,()) then some (.normal,cfT c tk b (g (c,tk,⟨#[]⟩,()))) else none:=by kernel_rfl
theorem cf_q6 : cfRun aw pre g (cfL 6) (cfT c tk b x) [cfN1,cfN2] [6,8,9,10,11] = bif pre (c,tk,b,()) then some (.normal,cfU x (g (c,tk,b,()))) else none:=by kernel_rfl
theorem cf_q7 : cfRun aw pre g (cfL 7) (cfU x y) [cfN1,cfN2] [6,8,9,10,11] = bif x.b.toList == (⟨#[]⟩ : ByteArray).toList then bif y.b.toList == (⟨#[]⟩ : ByteArray).toList then some (.ret,{ cfU x y with tmps:=(cfU x y).tmps.set 6 (.val (.bool (crfK x.a y.a))) }) else some (.ret,cfU x y) else some (.normal,cfU x y):=by kernel_rfl
theorem cf_q8 : cfRun aw pre g (cfL 8) (cfU x y) [cfN1,cfN2] [6,8,9,10,11] = bif y.a.rej != IntKind.i64.wrap (x.a.rej + 1) then some (.ret,cfU x y) else some (.normal,cfU x y):=by kernel_rfl
theorem cf_q9 : cfRun aw pre g (cfR 9) (cfU x y) [] [6] = some (.ret,cfB (crfK x.a { y.a with rej:=x.a.rej }) cfN3):=by kernel_rfl
theorem cf_resB (v : Bool) (lo : Nat) : resA Tryz.prog (cfB v lo) Tryz.f10.results.toList = some [.val (.bool v)]:=by kernel_rfl
theorem cf_resS (v : Bool) (r : List (Nat × AV)) : resA Tryz.prog (cfS c tk b ((6,.val (.bool v)) :: r)) Tryz.f10.results.toList = some [.val (.bool v)]:=by kernel_rfl
theorem cf_resU (v : Bool) : resA Tryz.prog { cfU x y with tmps:=(cfU x y).tmps.set 6 (.val (.bool v)) } Tryz.f10.results.toList = some [.val (.bool v)]:=by kernel_rfl
end
end Go.Ab
