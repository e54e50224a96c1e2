/- A part of the proofs: lemmas, no statement of their own; no condition. -/
import Derived.Test.YtoocjipllmkjcaaGreatGOrA
import Derived.Test.YtoocjipllmkjcaaGreatGLvSums
import Derived.Test.YtoocjipllmkjcaaGreatGAbU
import Derived.Lib.ConvBytes
import Derived.Test.YtoocjipllmkjcaaGreatGAbM
namespace Go.Ab
open Go Go.Proofs
abbrev gRunL (P : Program) (E : Env) (N : Nat) (c : Code) (s : St) (keep ts : List Nat) : Option (Ex × St):=run P (callN P E 4) N { quiet:=fun f=>isSum E.gam f && !hasN E.loud f } [] 1000 (Ex × St) c s (fun e s=>some (e,dropSt keep (restN N ts) s))
theorem gRunL_runs {P : Program} {N : Nat} {E : Env} (hG : GamOk P E.gam) {c : Code} {s s1 : St} {e : Ex} {keep ts : List Nat} (h : gRunL P E N c s keep ts = some (e,s1)) : RunsTo P N c s e s1:=runs_drop (callN_ok hG 4) keep _ h
structure EOps where
  o : Ops
  vn : Bool→V3 × Unit→Int × Bool
  rt : Int × Unit→Bool
  te : Bool→Int × Int × Unit→(Nat→Int) × Bool
  nm : Bool→Int × Int × Int × Unit→Two Int Int × Bool
abbrev eF (F : EOps) : Env:={ gam:=(137,S 57 F.vn) :: (87,S0 F.rt) :: (245,termsS F.te) :: (246,Sc 57 preNum F.nm) :: gamN F.o,loud:=[245] }
noncomputable def eaC : Code:=Tryz.f221.body.getD .skip
noncomputable def eaR : Nat→Code
  | 0=>eaC
  | n + 1=>seqR (eaR n)
noncomputable def eaL (n : Nat) : Code:=seqL (eaR n)
noncomputable def eaB0 : Code:=seqR (eaL 11)
noncomputable def eaB : Code:=inB (inB eaB0)
def eaS1 (p : V3) (tk r : Int) (f : Bool) : St:=gSt 247 [(0,.ptr 0 0),(2,.val (.int .i64 tk)),(4,.ptr 4096 0),(6,.ptr (4096 + 1 * 2 ^ 180) 0),(7,.val (.int .i64 r))] [(0,.row 57 [.val (.bool f)]),(4096,.row 32 [.val (.int .i64 p.x),.val (.int .i64 p.y),.val (.int .i64 p.z)]),((4096 + 1 * 2 ^ 180),.row 32 [.val (.int .i64 0),.val (.int .i64 0),.val (.int .i64 0)])] (4096 + 2 * 2 ^ 180)
def eaZ (p : V3) (f : Bool) (lo : Nat) : St:=gSt 247 [(6,.ptr (4096 + 1 * 2 ^ 180) 0)] [(0,.row 57 [.val (.bool f)]),((4096 + 1 * 2 ^ 180),.row 32 [.val (.int .i64 p.x),.val (.int .i64 p.y),.val (.int .i64 p.z)])] lo
def eaS7 (p : V3) (tk r w c s : Int) (f : Bool) : St:=gSt 247 [(0,.ptr 0 0),(2,.val (.int .i64 tk)),(4,.ptr 4096 0),(6,.ptr (4096 + 1 * 2 ^ 180) 0),(7,.val (.int .i64 r)),(8,.val (.int .i64 w)),(9,.val (.int .i64 c)),(10,.val (.int .i64 s)),(11,.val (.int .i64 1099511627776)),(12,.val (.int .i64 0))]
  [(0,.row 57 [.val (.bool f)]),(4096,.row 32 [.val (.int .i64 p.x),.val (.int .i64 p.y),.val (.int .i64 p.z)]),((4096 + 1 * 2 ^ 180),.row 32 [.val (.int .i64 0),.val (.int .i64 0),.val (.int .i64 0)])] (4096 + 2 * 2 ^ 180)
def eaS8 (tk r c s u v : Int) (f : Bool) : St:=gSt 247 [(0,.ptr 0 0),(2,.val (.int .i64 tk)),(6,.ptr (4096 + 1 * 2 ^ 180) 0),(7,.val (.int .i64 r)),(9,.val (.int .i64 c)),(10,.val (.int .i64 s)),(11,.val (.int .i64 u)),(12,.val (.int .i64 v))]
  [(0,.row 57 [.val (.bool f)]),((4096 + 1 * 2 ^ 180),.row 32 [.val (.int .i64 0),.val (.int .i64 0),.val (.int .i64 0)])] (4096 + 2 * 2 ^ 180)
structure EZ where
  t : Int
  up : Int
  so : Int
  ea : Int
  cs : Int
  sn : Int
def eaI (tk c s u v : Int) (T : Nat→Int) (ra : Int) (n : Nat) (z : EZ) (f : Bool) : St:=gSt 247 [(0,.ptr 0 0),(2,.val (.int .i64 tk)),(6,.ptr (4096 + 1 * 2 ^ 180) 0),(9,.val (.int .i64 c)),(10,.val (.int .i64 s)),(11,.val (.int .i64 u)),(12,.val (.int .i64 v)),(13,.map (4096 + 2 * 2 ^ 180)),(14,.val (.int .i64 z.up)),(15,.val (.int .i64 z.so)),(16,.val (.int .i64 z.ea)),(17,.val (.int .i64 ra)),(18,.val (.int .i64 z.t)),(19,.val (kI n))]
  [(0,.row 57 [.val (.bool f)]),((4096 + 1 * 2 ^ 180),.row 32 [.val (.int .i64 0),.val (.int .i64 0),.val (.int .i64 0)]),((4096 + 2 * 2 ^ 180),.obj (tmObj 7 T))] (4096 + 3 * 2 ^ 180)
def eaIn (o : Ops) (nm : Bool→Int × Int × Int × Unit→Two Int Int × Bool) (u v tk : Int) (T : Nat→Int) (n m : Nat) (z : EZ × Bool) : EZ × Bool :=
  let g:=nm z.2 ((n : Int),(m : Int),tk,())
  let e1:=o.mul g.2 g.1.a z.1.cs
  let e2:=o.mul e1.2 g.1.b z.1.sn
  let ev:=o.add e2.2 e1.1 e2.1
  let o1:=o.mul ev.2 g.1.a z.1.sn
  let o2:=o.mul o1.2 g.1.b z.1.cs
  let od:=o.sub o2.2 o1.1 o2.1
  let u1:=o.mul od.2 ev.1 (T (ix n m))
  let u2:=o.mul u1.2 z.1.t u1.1
  let u3:=o.part u2.2 u2.1 ((n + 1 : Nat) : Int) 1
  let up:=o.add u3.2 z.1.up u3.1
  let s1:=o.mul up.2 ev.1 (T (ix n m + 1))
  let s2:=o.mul s1.2 z.1.t s1.1
  let so:=o.sub s2.2 z.1.so s2.1
  let a1:=o.mul so.2 od.1 (T (ix n m + 2))
  let a2:=o.mul a1.2 z.1.t a1.1
  let a3:=o.part a2.2 a2.1 (m : Int) 1
  let ea:=o.add a3.2 z.1.ea a3.1
  let c1:=o.mul ea.2 z.1.cs u
  let c2:=o.mul c1.2 z.1.sn v
  let cs:=o.sub c2.2 c1.1 c2.1
  let c3:=o.mul cs.2 z.1.sn u
  let c4:=o.mul c3.2 z.1.cs v
  let sn:=o.add c4.2 c3.1 c4.1
  (⟨z.1.t,up.1,so.1,ea.1,cs.1,sn.1⟩,sn.2)
def eaRow (o : Ops) (nm : Bool→Int × Int × Int × Unit→Two Int Int × Bool) (u v tk : Int) (T : Nat→Int) (n : Nat) : Nat→Nat→EZ × Bool→EZ × Bool
  | _,0,z=>z
  | m,k + 1,z=>eaRow o nm u v tk T n (m + 1) k (eaIn o nm u v tk T n m z)
def eaBegin (o : Ops) (ra : Int) (z : EZ × Bool) : EZ × Bool:=(⟨(o.mul z.2 z.1.t ra).1,z.1.up,z.1.so,z.1.ea,1099511627776,0⟩,(o.mul z.2 z.1.t ra).2)
def eaRound (o : Ops) (nm : Bool→Int × Int × Int × Unit→Two Int Int × Bool) (u v tk : Int) (T : Nat→Int) (ra : Int) (k : Nat) (z : EZ × Bool) : EZ × Bool:=eaRow o nm u v tk T (k + 1) 0 (k + 2) (eaBegin o ra z)
section
variable (F : EOps) (p : V3) (tk r w c s u v ra : Int) (T : Nat→Int) (z : EZ) (f : Bool)
theorem ea_q0 : gRun Tryz.prog (eF F) 247 (eaL 0) (startS 247 [.ptr 0 0,.val (Cod.enc p),.val (.int .i64 tk)] (row 57 f)) [0,4096,(4096 + 1 * 2 ^ 180)] [0,2,4,6] = some (.normal,gSt 247 [(0,.ptr 0 0),(2,.val (.int .i64 tk)),(4,.ptr 4096 0),(6,.ptr (4096 + 1 * 2 ^ 180) 0)] [(0,.row 57 [.val (.bool f)]),(4096,.row 32 [.val (.int .i64 p.x),.val (.int .i64 p.y),.val (.int .i64 p.z)]),((4096 + 1 * 2 ^ 180),.row 32 [.val (.int .i64 0),.val (.int .i64 0),.val (.int .i64 0)])] (4096 + 2 * 2 ^ 180)):=by kernel_rfl
theorem ea_q1 : gRun Tryz.prog (eF F) 247 (eaL 1) (gSt 247 [(0,.ptr 0 0),(2,.val (.int .i64 tk)),(4,.ptr 4096 0),(6,.ptr (4096 + 1 * 2 ^ 180) 0)] [(0,.row 57 [.val (.bool f)]),(4096,.row 32 [.val (.int .i64 p.x),.val (.int .i64 p.y),.val (.int .i64 p.z)]),((4096 + 1 * 2 ^ 180),.row 32 [.val (.int .i64 0),.val (.int .i64 0),.val (.int .i64 0)])] (4096 + 2 * 2 ^ 180)) [0,4096,(4096 + 1 * 2 ^ 180)] [0,2,4,6,7] = some (.normal,eaS1 p tk (F.vn f (p,())).1 (F.vn f (p,())).2):=by kernel_rfl
theorem ea_q2 : gRun Tryz.prog (eF F) 247 (eaL 2) (eaS1 p tk r f) [0,4096,(4096 + 1 * 2 ^ 180)] [0,2,4,6,7] = bif !F.rt (tk,()) then some (.normal,eaS1 p tk r true) else bif decide (r < 6597069766656) then some (.normal,eaS1 p tk r true) else bif decide (r > 10995116277760) then some (.normal,eaS1 p tk r true) else some (.normal,eaS1 p tk r f):=by kernel_rfl
theorem ea_q3t : gRun Tryz.prog (eF F) 247 (eaL 3) (eaS1 p tk r true) [0,(4096 + 1 * 2 ^ 180)] [6] = some (.ret,eaZ ⟨0,0,0⟩ true (4096 + 2 * 2 ^ 180)):=by kernel_rfl
theorem ea_q3f : gRun Tryz.prog (eF F) 247 (eaL 3) (eaS1 p tk r false) [0,4096,(4096 + 1 * 2 ^ 180)] [0,2,4,6,7] = some (.normal,eaS1 p tk r false):=by kernel_rfl
def eaW (F : EOps) (p : V3) (f : Bool) : Int × Bool:=F.o.norm f p.x p.y 0
def eaCo (F : EOps) (p : V3) (r : Int) (w : Int × Bool) : Int × Bool:=F.o.div w.2 p.z r
def eaSi (F : EOps) (r : Int) (w c : Int × Bool) : Int × Bool:=F.o.div c.2 w.1 r
def eaS4 (p : V3) (tk r w : Int) (f : Bool) : St:=gSt 247 [(0,.ptr 0 0),(2,.val (.int .i64 tk)),(4,.ptr 4096 0),(6,.ptr (4096 + 1 * 2 ^ 180) 0),(7,.val (.int .i64 r)),(8,.val (.int .i64 w))]
  [(0,.row 57 [.val (.bool f)]),(4096,.row 32 [.val (.int .i64 p.x),.val (.int .i64 p.y),.val (.int .i64 p.z)]),((4096 + 1 * 2 ^ 180),.row 32 [.val (.int .i64 0),.val (.int .i64 0),.val (.int .i64 0)])] (4096 + 2 * 2 ^ 180)
theorem ea_q4 : gRun Tryz.prog (eF F) 247 (eaL 4) (eaS1 p tk r f) [0,4096,(4096 + 1 * 2 ^ 180)] [0,2,4,6,7,8] = some (.normal,eaS4 p tk r (eaW F p f).1 (eaW F p f).2):=by kernel_rfl
theorem ea_q5 : gRun Tryz.prog (eF F) 247 (eaL 5) (eaS4 p tk r w f) [0,4096,(4096 + 1 * 2 ^ 180)] [0,2,4,6,7,8,9,10,11,12] = some (.normal,eaS7 p tk r w (eaCo F p r (w,f)).1 (eaSi F r (w,f) (eaCo F p r (w,f))).1 (eaSi F r (w,f) (eaCo F p r (w,f))).2):=by kernel_rfl
theorem ea_q6 : gRun Tryz.prog (eF F) 247 (eaL 6) (eaS7 p tk r w c s f) [0,(4096 + 1 * 2 ^ 180)] [0,2,6,7,9,10,11,12] = bif decide (w ≥ 1048576) then some (.normal,eaS8 tk r c s (F.o.div f p.x w).1 (F.o.div (F.o.div f p.x w).2 p.y w).1 (F.o.div (F.o.div f p.x w).2 p.y w).2) else some (.normal,eaS8 tk r c s 1099511627776 0 f):=by kernel_rfl
def eaT10 (tk r c s u v : Int) (T : Nat→Int) (f : Bool) : St:=gSt 247 [(0,.ptr 0 0),(2,.val (.int .i64 tk)),(6,.ptr (4096 + 1 * 2 ^ 180) 0),(7,.val (.int .i64 r)),(9,.val (.int .i64 c)),(10,.val (.int .i64 s)),(11,.val (.int .i64 u)),(12,.val (.int .i64 v)),(13,.map (4096 + 2 * 2 ^ 180))] [(0,.row 57 [.val (.bool f)]),((4096 + 1 * 2 ^ 180),.row 32 [.val (.int .i64 0),.val (.int .i64 0),.val (.int .i64 0)]),((4096 + 2 * 2 ^ 180),.obj (tmObj 7 T))] (4096 + 3 * 2 ^ 180)
def eaT11 (tk r c s u v : Int) (T : Nat→Int) (f : Bool) : St:=gSt 247 [(0,.ptr 0 0),(2,.val (.int .i64 tk)),(6,.ptr (4096 + 1 * 2 ^ 180) 0),(7,.val (.int .i64 r)),(9,.val (.int .i64 c)),(10,.val (.int .i64 s)),(11,.val (.int .i64 u)),(12,.val (.int .i64 v)),(13,.map (4096 + 2 * 2 ^ 180)),(14,.val (.int .i64 0)),(15,.val (.int .i64 0)),(16,.val (.int .i64 0))] [(0,.row 57 [.val (.bool f)]),((4096 + 1 * 2 ^ 180),.row 32 [.val (.int .i64 0),.val (.int .i64 0),.val (.int .i64 0)]),((4096 + 2 * 2 ^ 180),.obj (tmObj 7 T))] (4096 + 3 * 2 ^ 180)
def eaT12 (tk c s u v : Int) (T : Nat→Int) (ra : Int) (f : Bool) : St:=gSt 247 [(0,.ptr 0 0),(2,.val (.int .i64 tk)),(6,.ptr (4096 + 1 * 2 ^ 180) 0),(9,.val (.int .i64 c)),(10,.val (.int .i64 s)),(11,.val (.int .i64 u)),(12,.val (.int .i64 v)),(13,.map (4096 + 2 * 2 ^ 180)),(14,.val (.int .i64 0)),(15,.val (.int .i64 0)),(16,.val (.int .i64 0)),(17,.val (.int .i64 ra))] [(0,.row 57 [.val (.bool f)]),((4096 + 1 * 2 ^ 180),.row 32 [.val (.int .i64 0),.val (.int .i64 0),.val (.int .i64 0)]),((4096 + 2 * 2 ^ 180),.obj (tmObj 7 T))] (4096 + 3 * 2 ^ 180)
def eaT13 (tk c s u v : Int) (T : Nat→Int) (ra t : Int) (f : Bool) : St:=gSt 247 [(0,.ptr 0 0),(2,.val (.int .i64 tk)),(6,.ptr (4096 + 1 * 2 ^ 180) 0),(9,.val (.int .i64 c)),(10,.val (.int .i64 s)),(11,.val (.int .i64 u)),(12,.val (.int .i64 v)),(13,.map (4096 + 2 * 2 ^ 180)),(14,.val (.int .i64 0)),(15,.val (.int .i64 0)),(16,.val (.int .i64 0)),(17,.val (.int .i64 ra)),(18,.val (.int .i64 t))] [(0,.row 57 [.val (.bool f)]),((4096 + 1 * 2 ^ 180),.row 32 [.val (.int .i64 0),.val (.int .i64 0),.val (.int .i64 0)]),((4096 + 2 * 2 ^ 180),.obj (tmObj 7 T))] (4096 + 3 * 2 ^ 180)
theorem ea_q7 : gRunL Tryz.prog (eF F) 247 (eaL 7) (eaS8 tk r c s u v f) [0,(4096 + 1 * 2 ^ 180),(4096 + 2 * 2 ^ 180)] [0,2,6,7,9,10,11,12,13] = some (.normal,eaT10 tk r c s u v (F.te f (c,s,())).1 (F.te f (c,s,())).2):=by kernel_rfl
theorem ea_q8 : gRun Tryz.prog (eF F) 247 (eaL 8) (eaT10 tk r c s u v T f) [0,(4096 + 1 * 2 ^ 180),(4096 + 2 * 2 ^ 180)] [0,2,6,7,9,10,11,12,13,14,15,16] = some (.normal,eaT11 tk r c s u v T f):=by kernel_rfl
theorem ea_q9 : gRun Tryz.prog (eF F) 247 (eaL 9) (eaT11 tk r c s u v T f) [0,(4096 + 1 * 2 ^ 180),(4096 + 2 * 2 ^ 180)] [0,2,6,9,10,11,12,13,14,15,16,17] = some (.normal,eaT12 tk c s u v T (F.o.div f 7005208482886 r).1 (F.o.div f 7005208482886 r).2):=by kernel_rfl
theorem ea_q10 : gRun Tryz.prog (eF F) 247 (eaL 10) (eaT12 tk c s u v T ra f) [0,(4096 + 1 * 2 ^ 180),(4096 + 2 * 2 ^ 180)] [0,2,6,9,10,11,12,13,14,15,16,17,18] = some (.normal,eaT13 tk c s u v T ra (F.o.mul f ra ra).1 (F.o.mul f ra ra).2):=by kernel_rfl
theorem ea_q11 (t : Int) : gRun Tryz.prog (eF F) 247 (seqL (eaL 11)) (eaT13 tk c s u v T ra t f) [0,(4096 + 1 * 2 ^ 180),(4096 + 2 * 2 ^ 180)] [0,2,6,9,10,11,12,13,14,15,16,17,18,19] = some (.normal,eaI tk c s u v T ra 1 ⟨t,0,0,0,0,0⟩ f):=by kernel_rfl
theorem ea_qX : gCut Tryz.prog (eF F) 247 eaB (eaI tk c s u v T ra 7 z f) (4096 + 3 * 2 ^ 180) [0,(4096 + 1 * 2 ^ 180),(4096 + 2 * 2 ^ 180)] [0,2,6,9,10,11,12,13,14,15,16,17,18,19] = some (.exit 0,eaI tk c s u v T ra 7 z f):=by kernel_rfl
theorem eaI_k2 : okClean (4096 + 3 * 2 ^ 180) (eaI tk c s u v T ra 2 z f) = true:=by kernel_rfl
theorem eaI_k3 : okClean (4096 + 3 * 2 ^ 180) (eaI tk c s u v T ra 3 z f) = true:=by kernel_rfl
theorem eaI_k4 : okClean (4096 + 3 * 2 ^ 180) (eaI tk c s u v T ra 4 z f) = true:=by kernel_rfl
theorem eaI_k5 : okClean (4096 + 3 * 2 ^ 180) (eaI tk c s u v T ra 5 z f) = true:=by kernel_rfl
theorem eaI_k6 : okClean (4096 + 3 * 2 ^ 180) (eaI tk c s u v T ra 6 z f) = true:=by kernel_rfl
theorem eaI_k7 : okClean (4096 + 3 * 2 ^ 180) (eaI tk c s u v T ra 7 z f) = true:=by kernel_rfl
def eaEnd (o : Ops) (c s u v : Int) (z : EZ × Bool) : V3 × Bool :=
  let a1:=o.mul z.2 z.1.up s
  let a2:=o.mul a1.2 z.1.so c
  let a:=o.add a2.2 a1.1 a2.1
  let x1:=o.mul a.2 a.1 u
  let x2:=o.mul x1.2 z.1.ea v
  let x:=o.sub x2.2 x1.1 x2.1
  let y1:=o.mul x.2 a.1 v
  let y2:=o.mul y1.2 z.1.ea u
  let y:=o.add y2.2 y1.1 y2.1
  let w1:=o.mul y.2 z.1.up c
  let w2:=o.mul w1.2 z.1.so s
  let w:=o.sub w2.2 w1.1 w2.1
  (⟨x.1,y.1,w.1⟩,w.2)
theorem ea_qE : gCut Tryz.prog (eF F) 247 (eaR 12) (eaI tk c s u v T ra 7 z f) (4096 + 3 * 2 ^ 180) [0,(4096 + 1 * 2 ^ 180)] [6] = bif (eaEnd F.o c s u v (z,f)).2 then some (.ret,eaZ V3.zero (eaEnd F.o c s u v (z,f)).2 (4096 + 3 * 2 ^ 180)) else some (.ret,eaZ (eaEnd F.o c s u v (z,f)).1 (eaEnd F.o c s u v (z,f)).2 (4096 + 3 * 2 ^ 180)):=by kernel_rfl
theorem eaZ_k : okClean (4096 + 3 * 2 ^ 180) (eaZ p f (4096 + 3 * 2 ^ 180)) = true:=by kernel_rfl
end
end Go.Ab
namespace Go.Ab
open Go Go.Proofs
theorem ea_w0 (F : EOps) (tk c s u v ra : Int) (T : Nat→Int) (z : EZ) (f : Bool) : gCut Tryz.prog (eF F) 247 eaB (eaI tk c s u v T ra 1 z f) (4096 + 3 * 2 ^ 180) [0,(4096 + 1 * 2 ^ 180),(4096 + 2 * 2 ^ 180)] [0,2,6,9,10,11,12,13,14,15,16,17,18,19] = some (.normal,eaI tk c s u v T ra 2 (eaRound F.o F.nm u v tk T ra 0 (z,f)).1 (eaRound F.o F.nm u v tk T ra 0 (z,f)).2):=by kernel_rfl
end Go.Ab
namespace Go.Ab
open Go Go.Proofs
theorem ea_w1 (F : EOps) (tk c s u v ra : Int) (T : Nat→Int) (z : EZ) (f : Bool) : gCut Tryz.prog (eF F) 247 eaB (eaI tk c s u v T ra 2 z f) (4096 + 3 * 2 ^ 180) [0,(4096 + 1 * 2 ^ 180),(4096 + 2 * 2 ^ 180)] [0,2,6,9,10,11,12,13,14,15,16,17,18,19] = some (.normal,eaI tk c s u v T ra 3 (eaRound F.o F.nm u v tk T ra 1 (z,f)).1 (eaRound F.o F.nm u v tk T ra 1 (z,f)).2):=by kernel_rfl
end Go.Ab
namespace Go.Ab
open Go Go.Proofs
theorem ea_w2 (F : EOps) (tk c s u v ra : Int) (T : Nat→Int) (z : EZ) (f : Bool) : gCut Tryz.prog (eF F) 247 eaB (eaI tk c s u v T ra 3 z f) (4096 + 3 * 2 ^ 180) [0,(4096 + 1 * 2 ^ 180),(4096 + 2 * 2 ^ 180)] [0,2,6,9,10,11,12,13,14,15,16,17,18,19] = some (.normal,eaI tk c s u v T ra 4 (eaRound F.o F.nm u v tk T ra 2 (z,f)).1 (eaRound F.o F.nm u v tk T ra 2 (z,f)).2):=by kernel_rfl
end Go.Ab
namespace Go.Ab
open Go Go.Proofs
theorem ea_w3 (F : EOps) (tk c s u v ra : Int) (T : Nat→Int) (z : EZ) (f : Bool) : gCut Tryz.prog (eF F) 247 eaB (eaI tk c s u v T ra 4 z f) (4096 + 3 * 2 ^ 180) [0,(4096 + 1 * 2 ^ 180),(4096 + 2 * 2 ^ 180)] [0,2,6,9,10,11,12,13,14,15,16,17,18,19] = some (.normal,eaI tk c s u v T ra 5 (eaRound F.o F.nm u v tk T ra 3 (z,f)).1 (eaRound F.o F.nm u v tk T ra 3 (z,f)).2):=by kernel_rfl
end Go.Ab
namespace Go.Ab
open Go Go.Proofs
theorem ea_w4 (F : EOps) (tk c s u v ra : Int) (T : Nat→Int) (z : EZ) (f : Bool) : gCut Tryz.prog (eF F) 247 eaB (eaI tk c s u v T ra 5 z f) (4096 + 3 * 2 ^ 180) [0,(4096 + 1 * 2 ^ 180),(4096 + 2 * 2 ^ 180)] [0,2,6,9,10,11,12,13,14,15,16,17,18,19] = some (.normal,eaI tk c s u v T ra 6 (eaRound F.o F.nm u v tk T ra 4 (z,f)).1 (eaRound F.o F.nm u v tk T ra 4 (z,f)).2):=by kernel_rfl
end Go.Ab
namespace Go.Ab
open Go Go.Proofs
theorem ea_w5 (F : EOps) (tk c s u v ra : Int) (T : Nat→Int) (z : EZ) (f : Bool) : gCut Tryz.prog (eF F) 247 eaB (eaI tk c s u v T ra 6 z f) (4096 + 3 * 2 ^ 180) [0,(4096 + 1 * 2 ^ 180),(4096 + 2 * 2 ^ 180)] [0,2,6,9,10,11,12,13,14,15,16,17,18,19] = some (.normal,eaI tk c s u v T ra 7 (eaRound F.o F.nm u v tk T ra 5 (z,f)).1 (eaRound F.o F.nm u v tk T ra 5 (z,f)).2):=by kernel_rfl
end Go.Ab
namespace Go.Ab
open Go Go.Proofs
theorem eaC_is : Tryz.f221.body = some (.seq (eaL 0) (.seq (eaL 1) (.seq (eaL 2) (.seq (eaL 3) (.seq (eaL 4) (.seq (eaL 5) (.seq (eaL 6) (.seq (eaL 7) (.seq (eaL 8) (.seq (eaL 9) (.seq (eaL 10) (.seq (.seq (seqL (eaL 11)) (.block 0 (.loop eaB))) (eaR 12))))))))))))):=by kernel_rfl
theorem eaN_is : Tryz.f221.ntmps = 247:=by kernel_rfl
theorem f221_is : Tryz.prog.funcs[221]? = some Tryz.f221:=by kernel_rfl
def eaPre (F : EOps) (tk r : Int) (f : Bool) : Bool:=bif !F.rt (tk,()) then true else bif decide (r < 6597069766656) then true else bif decide (r > 10995116277760) then true else f
structure UV where
  u : Int
  v : Int
def eaUV (o : Ops) (p : V3) (w : Int) (f : Bool) : UV × Bool:=bif decide (w ≥ 1048576) then (⟨(o.div f p.x w).1,(o.div (o.div f p.x w).2 p.y w).1⟩,(o.div (o.div f p.x w).2 p.y w).2) else (⟨1099511627776,0⟩,f)
def eaMid (F : EOps) (tk r c s : Int) (uv : UV × Bool) : V3 × Bool :=
  let T:=F.te uv.2 (c,s,())
  let ra:=F.o.div T.2 7005208482886 r
  let t:=F.o.mul ra.2 ra.1 ra.1
  let z:=iterF (eaRound F.o F.nm uv.1.u uv.1.v tk T.1 ra.1) 0 6 (⟨t.1,0,0,0,0,0⟩,t.2)
  let e:=eaEnd F.o c s uv.1.u uv.1.v z
  (bif e.2 then V3.zero else e.1,e.2)
def eaGo (F : EOps) (p : V3) (tk r : Int) : V3 × Bool :=
  let w:=eaW F p false
  let c:=eaCo F p r w
  let s:=eaSi F r w c
  eaMid F tk r c.1 s.1 (eaUV F.o p w.1 s.2)
def earthO (F : EOps) (b : Bool) (a : V3 × Int × Unit) : V3 × Bool :=
  let r:=F.vn b (a.1,())
  bif eaPre F a.2.1 r.1 r.2 then (V3.zero,true) else eaGo F a.1 a.2.1 r.1
section
variable {F : EOps} (hG : GamOk Tryz.prog (eF F).gam)
include hG
theorem ea_r0 (tk c s u v ra : Int) (T : Nat→Int) (z : EZ × Bool) : RunsTo Tryz.prog 247 eaB (eaI tk c s u v T ra 1 z.1 z.2) .normal (eaI tk c s u v T ra 2 (eaRound F.o F.nm u v tk T ra 0 z).1 (eaRound F.o F.nm u v tk T ra 0 z).2):=gCut_runs hG (ea_w0 F tk c s u v ra T z.1 z.2) rfl (eaI_k2 ..) rfl
theorem ea_r1 (tk c s u v ra : Int) (T : Nat→Int) (z : EZ × Bool) : RunsTo Tryz.prog 247 eaB (eaI tk c s u v T ra 2 z.1 z.2) .normal (eaI tk c s u v T ra 3 (eaRound F.o F.nm u v tk T ra 1 z).1 (eaRound F.o F.nm u v tk T ra 1 z).2):=gCut_runs hG (ea_w1 F tk c s u v ra T z.1 z.2) rfl (eaI_k3 ..) rfl
theorem ea_r2 (tk c s u v ra : Int) (T : Nat→Int) (z : EZ × Bool) : RunsTo Tryz.prog 247 eaB (eaI tk c s u v T ra 3 z.1 z.2) .normal (eaI tk c s u v T ra 4 (eaRound F.o F.nm u v tk T ra 2 z).1 (eaRound F.o F.nm u v tk T ra 2 z).2):=gCut_runs hG (ea_w2 F tk c s u v ra T z.1 z.2) rfl (eaI_k4 ..) rfl
theorem ea_r3 (tk c s u v ra : Int) (T : Nat→Int) (z : EZ × Bool) : RunsTo Tryz.prog 247 eaB (eaI tk c s u v T ra 4 z.1 z.2) .normal (eaI tk c s u v T ra 5 (eaRound F.o F.nm u v tk T ra 3 z).1 (eaRound F.o F.nm u v tk T ra 3 z).2):=gCut_runs hG (ea_w3 F tk c s u v ra T z.1 z.2) rfl (eaI_k5 ..) rfl
theorem ea_r4 (tk c s u v ra : Int) (T : Nat→Int) (z : EZ × Bool) : RunsTo Tryz.prog 247 eaB (eaI tk c s u v T ra 5 z.1 z.2) .normal (eaI tk c s u v T ra 6 (eaRound F.o F.nm u v tk T ra 4 z).1 (eaRound F.o F.nm u v tk T ra 4 z).2):=gCut_runs hG (ea_w4 F tk c s u v ra T z.1 z.2) rfl (eaI_k6 ..) rfl
theorem ea_r5 (tk c s u v ra : Int) (T : Nat→Int) (z : EZ × Bool) : RunsTo Tryz.prog 247 eaB (eaI tk c s u v T ra 6 z.1 z.2) .normal (eaI tk c s u v T ra 7 (eaRound F.o F.nm u v tk T ra 5 z).1 (eaRound F.o F.nm u v tk T ra 5 z).2):=gCut_runs hG (ea_w5 F tk c s u v ra T z.1 z.2) rfl (eaI_k7 ..) rfl
theorem ea_x (tk c s u v ra : Int) (T : Nat→Int) (z : EZ × Bool) : RunsTo Tryz.prog 247 eaB (eaI tk c s u v T ra 7 z.1 z.2) (.exit 0) (eaI tk c s u v T ra 7 z.1 z.2):=gCut_runs hG (ea_qX F tk c s u v ra T z.1 z.2) rfl (eaI_k7 ..) rfl
theorem ea_loop (tk c s u v ra : Int) (T : Nat→Int) (z : EZ) (f : Bool) : RunsTo Tryz.prog 247 (.block 0 (.loop eaB)) (eaI tk c s u v T ra 1 z f) .normal (eaI tk c s u v T ra 7 (iterF (eaRound F.o F.nm u v tk T ra) 0 6 (z,f)).1 (iterF (eaRound F.o F.nm u v tk T ra) 0 6 (z,f)).2) :=
  RunsTo.rounds (P:=Tryz.prog) (N:=247) (c:=eaB) (id:=0) 6 (fun k z=>eaI tk c s u v T ra (k + 1) z.1 z.2) (fun z=>eaI tk c s u v T ra 7 z.1 z.2) (eaRound F.o F.nm u v tk T ra)
    (fun k z hk=>below6 (p:=fun k=>∀ z : EZ × Bool,RunsTo Tryz.prog 247 eaB (eaI tk c s u v T ra (k + 1) z.1 z.2) .normal (eaI tk c s u v T ra (k + 1 + 1) (eaRound F.o F.nm u v tk T ra k z).1 (eaRound F.o F.nm u v tk T ra k z).2)) (ea_r0 hG tk c s u v ra T) (ea_r1 hG tk c s u v ra T) (ea_r2 hG tk c s u v ra T) (ea_r3 hG tk c s u v ra T) (ea_r4 hG tk c s u v ra T) (ea_r5 hG tk c s u v ra T) k hk z)
    (fun z=>ea_x hG tk c s u v ra T z) (z,f)
theorem ea_end (tk c s u v ra : Int) (T : Nat→Int) (z : EZ × Bool) : RunsTo Tryz.prog 247 (eaR 12) (eaI tk c s u v T ra 7 z.1 z.2) .ret (eaZ (bif (eaEnd F.o c s u v z).2 then V3.zero else (eaEnd F.o c s u v z).1) (eaEnd F.o c s u v z).2 (4096 + 3 * 2 ^ 180)):=by
  have h:=ea_qE F tk c s u v ra T z.1 z.2
  refine gCut_runs hG (h.trans ?_) rfl (eaZ_k ..) rfl
  cases (eaEnd F.o c s u v z).2 <;> rfl
theorem ea_mid (p : V3) (tk r w c s : Int) (f : Bool) : RunsTo Tryz.prog 247 (.seq (eaL 6) (.seq (eaL 7) (.seq (eaL 8) (.seq (eaL 9) (.seq (eaL 10) (.seq (.seq (seqL (eaL 11)) (.block 0 (.loop eaB))) (eaR 12))))))) (eaS7 p tk r w c s f) .ret (eaZ (eaMid F tk r c s (eaUV F.o p w f)).1 (eaMid F tk r c s (eaUV F.o p w f)).2 (4096 + 3 * 2 ^ 180)):=by
  have h6 : RunsTo Tryz.prog 247 (eaL 6) (eaS7 p tk r w c s f) .normal (eaS8 tk r c s (eaUV F.o p w f).1.u (eaUV F.o p w f).1.v (eaUV F.o p w f).2):=by
    refine gRun_runs hG ((ea_q6 F p tk r w c s f).trans ?_)
    unfold eaUV
    cases decide (w ≥ 1048576) <;> rfl
  refine h6.seq ?_
  generalize eaUV F.o p w f = x
  obtain ⟨⟨u,v⟩,g⟩:=x
  unfold eaMid
  dsimp only
  have h7:=gRunL_runs hG (ea_q7 F tk r c s u v g)
  generalize F.te g (c,s,()) = T at h7 ⊢
  have h8:=gRun_runs hG (ea_q8 F tk r c s u v T.1 T.2)
  have h9:=gRun_runs hG (ea_q9 F tk r c s u v T.1 T.2)
  generalize F.o.div T.2 7005208482886 r = ra at h9 ⊢
  have h10:=gRun_runs hG (ea_q10 F tk c s u v ra.1 T.1 ra.2)
  generalize F.o.mul ra.2 ra.1 ra.1 = q at h10 ⊢
  have h11:=gRun_runs hG (ea_q11 F tk c s u v ra.1 T.1 q.2 q.1)
  have h12:=ea_loop hG tk c s u v ra.1 T.1 ⟨q.1,0,0,0,0,0⟩ q.2
  exact h7.seq (h8.seq (h9.seq (h10.seq ((h11.seq h12).seq (ea_end hG tk c s u v ra.1 T.1 _)))))
theorem ea_go (p : V3) (tk r : Int) : RunsTo Tryz.prog 247 (.seq (eaL 4) (.seq (eaL 5) (.seq (eaL 6) (.seq (eaL 7) (.seq (eaL 8) (.seq (eaL 9) (.seq (eaL 10) (.seq (.seq (seqL (eaL 11)) (.block 0 (.loop eaB))) (eaR 12))))))))) (eaS1 p tk r false) .ret (eaZ (eaGo F p tk r).1 (eaGo F p tk r).2 (4096 + 3 * 2 ^ 180)):=by
  have h4:=gRun_runs hG (ea_q4 F p tk r false)
  unfold eaGo
  dsimp only
  generalize eaW F p false = w at h4 ⊢
  exact h4.seq ((gRun_runs hG (ea_q5 F p tk r w.1 w.2)).seq (ea_mid hG p tk r w.1 _ _ _))
theorem ea_runs (b : Bool) (p : V3) (tk : Int) : ∃ lo,RunsTo Tryz.prog 247 (.seq (eaL 0) (.seq (eaL 1) (.seq (eaL 2) (.seq (eaL 3) (.seq (eaL 4) (.seq (eaL 5) (.seq (eaL 6) (.seq (eaL 7) (.seq (eaL 8) (.seq (eaL 9) (.seq (eaL 10) (.seq (.seq (seqL (eaL 11)) (.block 0 (.loop eaB))) (eaR 12))))))))))))) (startS 247 [.ptr 0 0,.val (Cod.enc p),.val (.int .i64 tk)] (row 57 b)) .ret (eaZ (earthO F b (p,tk,())).1 (earthO F b (p,tk,())).2 lo):=by
  have h0:=gRun_runs hG (ea_q0 F p tk b)
  have h1:=gRun_runs hG (ea_q1 F p tk b)
  unfold earthO
  dsimp only
  generalize F.vn b (p,()) = r at h1 ⊢
  have h2 : RunsTo Tryz.prog 247 (eaL 2) (eaS1 p tk r.1 r.2) .normal (eaS1 p tk r.1 (eaPre F tk r.1 r.2)):=by
    refine gRun_runs hG ((ea_q2 F p tk r.1 r.2).trans ?_)
    unfold eaPre
    cases F.rt (tk,()) <;> cases decide (r.1 < 6597069766656) <;> cases decide (r.1 > 10995116277760) <;> rfl
  cases hp : eaPre F tk r.1 r.2 with
  | true =>
    rw [hp] at h2
    exact ⟨_,h0.seq (h1.seq (h2.seq (RunsTo.seqR (gRun_runs hG (ea_q3t F p tk r.1)))))⟩
  | false =>
    rw [hp] at h2
    exact ⟨_,h0.seq (h1.seq (h2.seq ((gRun_runs hG (ea_q3f F p tk r.1)).seq (ea_go hG p tk r.1))))⟩
end
theorem ea_res (p : V3) (f : Bool) (lo : Nat) : resA Tryz.prog (eaZ p f lo) Tryz.f221.results.toList = some [.val (Cod.enc p)]:=by kernel_rfl
theorem okEarth {F : EOps} (hG : GamOk Tryz.prog (eF F).gam) : SumOk Tryz.prog 221 (S 57 (earthO F)):=by
  intro args cs r cs' h
  obtain ⟨b,a,rfl,rfl,rfl,rfl⟩:=S_sel h
  obtain ⟨p,tk,u⟩:=a
  obtain ⟨lo,hr⟩:=ea_runs hG b p tk
  refine sum_runs f221_is eaC_is eaN_is (by show 3 ≤ 247; omega) (by simp [row]) rfl rfl rfl (.inr rfl) hr (ea_res ..) rfl rfl (fun b' c hb=>?_) rfl rfl
  match b',hb with
  | 0,hb=>cases hb; rfl
  | n + 1,hb=>simp [row] at hb
end Go.Ab
namespace Go.Ab
open Go Go.Proofs
structure SkOps where
  o : Ops
  sn : Bool→Int × Unit→Int × Bool
  cs : Bool→Int × Unit→Int × Bool
  tn : Bool→Int × Unit→Int × Bool
  ea : Bool→V3 × Int × Unit→V3 × Bool
def sky0 (F : SkOps) (b : Bool) (p : V3) (tk : Int) : V3 × Bool :=
  let o:=F.o
  let q:=F.tn b (tk,())
  let c:=F.cs q.2 (q.1,())
  let s:=F.sn c.2 (q.1,())
  let x1:=o.mul s.2 p.x c.1
  let x2:=o.mul x1.2 p.y s.1
  let x:=o.add x2.2 x1.1 x2.1
  let y1:=o.mul x.2 p.y c.1
  let y2:=o.mul y1.2 p.x s.1
  let y:=o.sub y2.2 y1.1 y2.1
  let e:=F.ea y.2 (⟨x.1,y.1,p.z⟩,tk,())
  let u1:=o.mul e.2 e.1.x c.1
  let u2:=o.mul u1.2 e.1.y s.1
  let u:=o.sub u2.2 u1.1 u2.1
  let v1:=o.mul u.2 e.1.y c.1
  let v2:=o.mul v1.2 e.1.x s.1
  let v:=o.add v2.2 v1.1 v2.1
  (⟨u.1,v.1,e.1.z⟩,v.2)
def EF : EOps:={ o:=opsF,vn:=vnorm opsF,rt:=fun p=>isTick p.1,te:=termsO opsF,nm:=numV }
theorem EF_o : EF.o = opsF:=by simp only [EF]
theorem EF_vn : EF.vn = vnorm opsF:=by simp only [EF]
theorem EF_rt : EF.rt = fun p=>isTick p.1:=by simp only [EF]
theorem EF_te : EF.te = termsO opsF:=by simp only [EF]
theorem EF_nm : EF.nm = numV:=by simp only [EF]
def earthV : Bool→V3 × Int × Unit→V3 × Bool:=earthO EF
theorem gamEF : GamOk Tryz.prog (eF EF).gam:=by
  show GamOk Tryz.prog ((137,S 57 EF.vn) :: (87,S0 EF.rt) :: (245,termsS EF.te) :: (246,Sc 57 preNum EF.nm) :: gamN EF.o)
  rw [EF_o,EF_vn,EF_rt,EF_te,EF_nm]
  exact .cons ok66 (.cons ok40 (.cons (okTerms gamN_ok) (.cons okNum246 gamN_ok)))
theorem okEarthV : SumOk Tryz.prog 221 (S 57 earthV):=okEarth gamEF
def skyF : SkOps:={ o:=opsF,sn:=sinV,cs:=cosV,tn:=vturn opsF (vdays opsF),ea:=earthV }
theorem skyF_o : skyF.o = opsF:=by simp only [skyF]
theorem skyF_sn : skyF.sn = sinV:=by simp only [skyF]
theorem skyF_cs : skyF.cs = cosV:=by simp only [skyF]
theorem skyF_tn : skyF.tn = vturn opsF (vdays opsF):=by simp only [skyF]
theorem skyF_ea : skyF.ea = earthV:=by simp only [skyF]
def gamSkP (F : SkOps) : Gam:=(220,S 57 F.tn) :: (221,S 57 F.ea) :: gamS F.o F.sn F.cs
theorem sky170P (F : SkOps) (b : Bool) (p : V3) (tk : Int) : fnSum Tryz.prog { gam:=gamSkP F } [] 20 170 [.ptr 0 0,.val (Cod.enc p),.val (.int .i64 tk)] (row 57 b) = snT 57 (sky0 F b p tk):=by kernel_rfl
theorem gamSkP_ok : GamOk Tryz.prog (gamSkP skyF):=by
  unfold gamSkP
  rw [skyF_o,skyF_sn,skyF_cs,skyF_tn,skyF_ea]
  exact .cons ok54 (.cons okEarthV gamS_ok)
def skyV (b : Bool) (p : V3 × Int × Unit) : V3 × Bool:=done3 (sky0 skyF b p.1 p.2.1)
theorem okSky : SumOk Tryz.prog 170 (S 57 skyV):=S_ok gamSkP_ok 20 fun b a=>(sky170P skyF b a.1 a.2.1).trans (snT_eq ..)
end Go.Ab
set_option linter.unusedSimpArgs false
namespace Go.Ab
open Go Go.Proofs
structure Tl where
  tk : Int
  mode : Int
  faults : Int
  ack : Int
  err : Int
  rej : Int
  q : V4
  d : V3
instance : Cod Tl where
  enc t:=.agg #[.int .i64 t.tk,.int .i64 t.mode,.int .i64 t.faults,.int .i64 t.ack,.int .i64 t.err,.int .i64 t.rej,.int .i64 t.q.w,.int .i64 t.q.x,.int .i64 t.q.y,.int .i64 t.q.z,.int .i64 t.d.x,.int .i64 t.d.y,.int .i64 t.d.z]
  dec v:=match v with | .agg ⟨[.int .i64 a,.int .i64 b,.int .i64 c,.int .i64 d,.int .i64 e,.int .i64 f,.int .i64 g,.int .i64 h,.int .i64 i,.int .i64 j,.int .i64 k,.int .i64 l,.int .i64 m]⟩=>some ⟨a,b,c,d,e,f,⟨g,h,i,j⟩,⟨k,l,m⟩⟩ | _=>none
  law v a h:=by split at h <;> simp_all; subst h; simp
theorem r230 (rt : Int × Unit→Bool) (a b c d e f g h i j k l m : Int) : fnSum Tryz.prog { gam:=[(87,S0 rt)] } [] 20 230 [.val (.agg #[.int .i64 a,.int .i64 b,.int .i64 c,.int .i64 d,.int .i64 e,.int .i64 f,.int .i64 g,.int .i64 h,.int .i64 i,.int .i64 j,.int .i64 k,.int .i64 l,.int .i64 m])] [] = (bif g != IntKind.i64.wrap (IntKind.i16.wrap g) then some (AV.val (Value.bool false),[]) else bif h != IntKind.i64.wrap (IntKind.i16.wrap h) then some (AV.val (Value.bool false),[]) else bif i != IntKind.i64.wrap (IntKind.i16.wrap i) then some (AV.val (Value.bool false),[]) else bif j != IntKind.i64.wrap (IntKind.i16.wrap j) then some (AV.val (Value.bool false),[]) else bif k != IntKind.i64.wrap (IntKind.i16.wrap k) then some (AV.val (Value.bool false),[]) else bif l != IntKind.i64.wrap (IntKind.i16.wrap l) then some (AV.val (Value.bool false),[]) else bif m != IntKind.i64.wrap (IntKind.i16.wrap m) then some (AV.val (Value.bool false),[]) else bif d != IntKind.i64.wrap (IntKind.u8.wrap d) then some (AV.val (Value.bool false),[]) else bif e != IntKind.i64.wrap (IntKind.u8.wrap e) then some (AV.val (Value.bool false),[]) else bif rt (a,()) then bif bif true then decide (b ≥ 0) else false then bif bif true then decide (b ≤ 3) else false then bif bif true then decide (c ≥ 0) else false then bif bif true then decide (c ≤ 15) else false then some (AV.val (Value.bool (bif true then f == IntKind.i64.wrap (IntKind.u16.wrap f) else false)),[]) else some (AV.val (Value.bool false),[]) else some (AV.val (Value.bool false),[]) else some (AV.val (Value.bool false),[]) else some (AV.val (Value.bool false),[]) else some (AV.val (Value.bool false),[])):=by kernel_rfl
def fit16 (x : Int) : Bool:=x == IntKind.i64.wrap (IntKind.i16.wrap x)
def tlOk (rt : Int × Unit→Bool) (t : Tl) : Bool:=fit16 t.q.w && (fit16 t.q.x && (fit16 t.q.y && (fit16 t.q.z && (fit16 t.d.x && (fit16 t.d.y && (fit16 t.d.z && ((t.ack == IntKind.i64.wrap (IntKind.u8.wrap t.ack)) && ((t.err == IntKind.i64.wrap (IntKind.u8.wrap t.err)) &&
  (rt (t.tk,()) && (decide (t.mode ≥ 0) && (decide (t.mode ≤ 3) && (decide (t.faults ≥ 0) && (decide (t.faults ≤ 15) && (t.rej == IntKind.i64.wrap (IntKind.u16.wrap t.rej)))))))))))))))
theorem right230 (rt : Int × Unit→Bool) (t : Tl) : fnSum Tryz.prog { gam:=[(87,S0 rt)] } [] 20 230 [.val (Cod.enc t)] [] = some (.val (.bool (tlOk rt t)),[]):=by
  refine (r230 rt t.tk t.mode t.faults t.ack t.err t.rej t.q.w t.q.x t.q.y t.q.z t.d.x t.d.y t.d.z).trans ?_
  simp only [cond_false,cond_true,pullB,pullT,bne,Bool.not_not]
  rfl
def tlRight (t : Tl) : Bool:=tlOk (fun p=>isTick p.1) t
theorem okTlRight : SumOk Tryz.prog 230 (S0 fun (p : Tl × Unit)=>tlRight p.1):=S0_ok (E:={ gam:=[(87,S0 fun (p : Int × Unit)=>isTick p.1)] }) (.cons ok40 .nil) 20 fun a=>right230 _ a.1
def cnt0 (pt : Bool→Int × Int × Int × Unit→Int × Bool) (q : V4) (v : V3) : Two V4 V3 × Bool :=
  let a:=pt false (q.w,1,67108864,())
  let b:=pt a.2 (q.x,1,67108864,())
  let c:=pt b.2 (q.y,1,67108864,())
  let d:=pt c.2 (q.z,1,67108864,())
  let x:=pt d.2 (v.x,10000,1099511627776,())
  let y:=pt x.2 (v.y,10000,1099511627776,())
  let z:=pt y.2 (v.z,10000,1099511627776,())
  (⟨⟨a.1,b.1,c.1,d.1⟩,⟨x.1,y.1,z.1⟩⟩,z.2)
def cntTl (c : Two V4 V3) : Tl:=⟨0,0,0,0,0,0,c.a,c.b⟩
theorem counts176 (rg : Tl × Unit→Bool) (pt : Bool→Int × Int × Int × Unit→Int × Bool) (q : V4) (v : V3) : fnSum Tryz.prog { gam:=[(230,S0 rg),(65,S 57 pt)] } [] 20 176 [.val (Cod.enc q),.val (Cod.enc v)] [] =
    bif (cnt0 pt q v).2 then some (.val (Cod.enc (Two.mk V4.zero V3.zero)),[]) else bif !rg (cntTl (cnt0 pt q v).1,()) then some (.val (Cod.enc (Two.mk V4.zero V3.zero)),[]) else some (.val (Cod.enc (cnt0 pt q v).1),[]):=by kernel_rfl
def countsO (rg : Tl × Unit→Bool) (pt : Bool→Int × Int × Int × Unit→Int × Bool) (p : V4 × V3 × Unit) : Two V4 V3:=bif (cnt0 pt p.1 p.2.1).2 then ⟨V4.zero,V3.zero⟩ else bif !rg (cntTl (cnt0 pt p.1 p.2.1).1,()) then ⟨V4.zero,V3.zero⟩ else (cnt0 pt p.1 p.2.1).1
def countsV : V4 × V3 × Unit→Two V4 V3:=countsO (fun p=>tlRight p.1) (op3 fpart)
theorem countsT_eq (c d : Bool) (x y : Two V4 V3) : (bif c then some (AV.val (Cod.enc x),([] : List Con)) else bif d then some (.val (Cod.enc x),[]) else some (.val (Cod.enc y),[])) = some (.val (Cod.enc (bif c then x else bif d then x else y)),[]):=by cases c <;> cases d <;> rfl
theorem okCounts : SumOk Tryz.prog 176 (S0 countsV):=S0_ok (E:={ gam:=[(230,S0 fun (p : Tl × Unit)=>tlRight p.1),(65,S 57 (op3 fpart))] }) (.cons okTlRight (.cons ok116 .nil)) 20 fun a=>(counts176 _ _ a.1 a.2.1).trans (countsT_eq ..)
end Go.Ab
namespace Go.Ab
open Go Go.Proofs
structure Dr where
  on : Bool
  tick : Int
  last : V3
  rate : V3
instance : Cod Dr where
  enc d:=.agg #[.bool d.on,.int .i64 d.tick,.int .i64 d.last.x,.int .i64 d.last.y,.int .i64 d.last.z,.int .i64 d.rate.x,.int .i64 d.rate.y,.int .i64 d.rate.z]
  dec v:=match v with | .agg ⟨[.bool on,.int .i64 t,.int .i64 a,.int .i64 b,.int .i64 c,.int .i64 x,.int .i64 y,.int .i64 z]⟩=>some ⟨on,t,⟨a,b,c⟩,⟨x,y,z⟩⟩ | _=>none
  law v a h:=by split at h <;> simp_all; subst h; simp
def clip (x : Int) : Int:=if (219902325555 : Int) < (if (-219902325555 : Int) > x then -219902325555 else x) then 219902325555 else (if (-219902325555 : Int) > x then -219902325555 else x)
def dip0 (o : Ops) (r : V3) (b : Bool) : V3 × Bool:=each3 b (fun b=>o.mul b r.x (-274877906944)) (fun b=>o.mul b r.y (-274877906944)) (fun b=>o.mul b r.z (-274877906944))
def dip1 (o : Ops) (r : V3) (b : Bool) : V3:=⟨clip (dip0 o r b).1.x,clip (dip0 o r b).1.y,clip (dip0 o r b).1.z⟩
def dipole (o : Ops) (b : Bool) (p : Dr × Unit) : V3 × Bool:=bif !p.1.on then (V3.zero,b) else (bif (dip0 o p.1.rate b).2 then V3.zero else dip1 o p.1.rate b,(dip0 o p.1.rate b).2)
theorem dipole60 (o : Ops) (b : Bool) (d : Dr) : fnSum Tryz.prog { gam:=gamN o } [] 20 175 [.ptr 0 0,.val (Cod.enc d)] (row 57 b) =
    bif !d.on then some (.val (Cod.enc V3.zero),row 57 b) else bif (dip0 o d.rate b).2 then some (.val (Cod.enc V3.zero),row 57 (dip0 o d.rate b).2) else some (.val (Cod.enc (dip1 o d.rate b)),row 57 (dip0 o d.rate b).2):=by kernel_rfl
theorem ok60 : SumOk Tryz.prog 175 (S 57 (dipole opsF)):=S_ok gamN_ok 20 fun b a=>by
  refine (dipole60 opsF b a.1).trans ?_
  unfold dipole
  cases !a.1.on <;> cases (dip0 opsF a.1.rate b).2 <;> rfl
end Go.Ab
namespace Go.Ab
open Go Go.Proofs
structure R6 where
  a : Int
  b : Int
  c : Int
  d : Int
  e : Int
  f : Int
instance : Cod R6 where
  enc r:=.agg #[.int .i64 r.a,.int .i64 r.b,.int .i64 r.c,.int .i64 r.d,.int .i64 r.e,.int .i64 r.f]
  dec v:=match v with | .agg ⟨[.int .i64 a,.int .i64 b,.int .i64 c,.int .i64 d,.int .i64 e,.int .i64 f]⟩=>some ⟨a,b,c,d,e,f⟩ | _=>none
  law v a h:=by split at h <;> simp_all; subst h; simp
structure M6 where
  a : R6
  b : R6
  c : R6
  d : R6
  e : R6
  f : R6
def R6.cells (r : R6) : List Value:=[.int .i64 r.a,.int .i64 r.b,.int .i64 r.c,.int .i64 r.d,.int .i64 r.e,.int .i64 r.f]
def six : List Value→Option (R6 × List Value)
  | .int .i64 a :: .int .i64 b :: .int .i64 c :: .int .i64 d :: .int .i64 e :: .int .i64 f :: r=>some (⟨a,b,c,d,e,f⟩,r)
  | _=>none
theorem six_law {l : List Value} {x : R6} {r : List Value} (h : six l = some (x,r)) : l = x.cells ++ r:=by
  unfold six at h
  split at h
  · cases h; rfl
  · cases h
instance : Cod M6 where
  enc m:=.agg ⟨m.a.cells ++ (m.b.cells ++ (m.c.cells ++ (m.d.cells ++ (m.e.cells ++ (m.f.cells ++ [])))))⟩
  dec v:=match v with
    | .agg ⟨l⟩=>match six l with
      | some (a,l)=>match six l with
        | some (b,l)=>match six l with
          | some (c,l)=>match six l with
            | some (d,l)=>match six l with
              | some (e,l)=>match six l with
                | some (f,[])=>some ⟨a,b,c,d,e,f⟩
                | _=>none
              | none=>none
            | none=>none
          | none=>none
        | none=>none
      | none=>none
    | _=>none
  law v m h:=by
    split at h
    · rename_i l
      split at h
      · rename_i a l1 h1
        split at h
        · rename_i b l2 h2
          split at h
          · rename_i c l3 h3
            split at h
            · rename_i d l4 h4
              split at h
              · rename_i e l5 h5
                split at h
                · rename_i f h6
                  cases h
                  rw [six_law h1,six_law h2,six_law h3,six_law h4,six_law h5,six_law h6]
                · cases h
              · cases h
            · cases h
          · cases h
        · cases h
      · cases h
    · cases h
def R6.at (r : R6) : Nat→Int
  | 0=>r.a
  | 1=>r.b
  | 2=>r.c
  | 3=>r.d
  | 4=>r.e
  | 5=>r.f
  | _=>0
abbrev Mx:=Nat→Nat→Int
def M6.row (m : M6) : Nat→R6
  | 0=>m.a
  | 1=>m.b
  | 2=>m.c
  | 3=>m.d
  | 4=>m.e
  | _=>m.f
def M6.at (m : M6) : Mx:=fun i j=>(m.row i).at j
def R6.of (v : Nat→Int) : R6:=⟨v 0,v 1,v 2,v 3,v 4,v 5⟩
def M6.of (L : Mx) : M6:=⟨R6.of (L 0),R6.of (L 1),R6.of (L 2),R6.of (L 3),R6.of (L 4),R6.of (L 5)⟩
def mx0 : Mx:=fun _ _=>0
def M6.zero : M6:=M6.of mx0
def R6.zero : R6:=R6.of fun _=>0
def setM (L : Mx) (i j : Nat) (v : Int) : Mx:=fun a b=>bif Nat.beq a i && Nat.beq b j then v else L a b
def setR (L : Nat→Int) (i : Nat) (v : Int) : Nat→Int:=fun a=>bif Nat.beq a i then v else L a
def lessN (o : Ops) (a b : Nat→Int) (s : Int × Bool) : Nat→Int × Bool
  | 0=>s
  | k + 1 =>
    let r:=lessN o a b s k
    let m:=o.mul r.2 (a k) (b k)
    o.sub m.2 r.1 m.1
def rootCols (o : Ops) (m : Mx) (i : Nat) (st : Mx × Bool) : Nat→Mx × Bool
  | 0=>st
  | j + 1 =>
    let r:=rootCols o m i st j
    let s:=lessN o (r.1 i) (r.1 j) (o.add r.2 (m i j) 0) j
    let d:=o.div s.2 s.1 (r.1 j j)
    (setM r.1 i j d.1,d.2)
def rootRow (o : Ops) (m : Mx) (i : Nat) (st : Mx × Bool) : Mx × Bool :=
  let r:=rootCols o m i st i
  let s:=lessN o (r.1 i) (r.1 i) (o.add r.2 (m i i) 0) i
  let q:=o.sqrt (bif decide (s.1 < 1) then true else s.2) s.1
  (setM r.1 i i q.1,q.2)
def rootRows (o : Ops) (m : Mx) (b : Bool) : Nat→Mx × Bool
  | 0=>(mx0,b)
  | i + 1=>rootRow o m i (rootRows o m b i)
def okN (n : Int) : Bool:=decide (1 ≤ n) && decide (n ≤ 6)
def envM (o : Ops) : Env:={ gam:=gamN o,ways:=[(61,[131]),(78,[113])] }
end Go.Ab
namespace Go.Ab
open Go Go.Proofs
def rootT (o : Ops) (e : TypeId) (b : Bool) (m : M6) (k : Nat) : Option (AV × List Con) :=
  bif !!b then some (.val (Cod.enc M6.zero),row e b) else bif (rootRows o m.at b k).2 then some (.val (Cod.enc M6.zero),row e (rootRows o m.at b k).2) else some (.val (Cod.enc (M6.of (rootRows o m.at b k).1)),row e (rootRows o m.at b k).2)
theorem root64_1 (o : Ops) (b : Bool) (m : M6) : fnSum Tryz.prog (envM o) [] 20 61 [.ptr 0 0,.val (Cod.enc m),.val (.int .i64 1)] (row 57 b) = rootT o 57 b m 1:=by kernel_rfl
theorem root64_2 (o : Ops) (b : Bool) (m : M6) : fnSum Tryz.prog (envM o) [] 20 61 [.ptr 0 0,.val (Cod.enc m),.val (.int .i64 2)] (row 57 b) = rootT o 57 b m 2:=by kernel_rfl
theorem root64_3 (o : Ops) (b : Bool) (m : M6) : fnSum Tryz.prog (envM o) [] 20 61 [.ptr 0 0,.val (Cod.enc m),.val (.int .i64 3)] (row 57 b) = rootT o 57 b m 3:=by kernel_rfl
theorem root64_4 (o : Ops) (b : Bool) (m : M6) : fnSum Tryz.prog (envM o) [] 20 61 [.ptr 0 0,.val (Cod.enc m),.val (.int .i64 4)] (row 57 b) = rootT o 57 b m 4:=by kernel_rfl
theorem root64_5 (o : Ops) (b : Bool) (m : M6) : fnSum Tryz.prog (envM o) [] 20 61 [.ptr 0 0,.val (Cod.enc m),.val (.int .i64 5)] (row 57 b) = rootT o 57 b m 5:=by kernel_rfl
theorem root64_6 (o : Ops) (b : Bool) (m : M6) : fnSum Tryz.prog (envM o) [] 20 61 [.ptr 0 0,.val (Cod.enc m),.val (.int .i64 6)] (row 57 b) = rootT o 57 b m 6:=by kernel_rfl
end Go.Ab
namespace Go.Ab
open Go Go.Proofs
def fwdN (o : Ops) (L : Mx) (y : Nat→Int) (b : Bool) : Nat→(Nat→Int) × Bool
  | 0=>(fun _=>0,b)
  | i + 1 =>
    let r:=fwdN o L y b i
    let s:=lessN o (L i) r.1 (o.add r.2 (y i) 0) i
    let d:=o.div s.2 s.1 (L i i)
    (setR r.1 i d.1,d.2)
def lessB (o : Ops) (L : Mx) (x : Nat→Int) (i : Nat) (s : Int × Bool) : Nat→Int × Bool
  | 0=>s
  | c + 1 =>
    let r:=lessB o L x i s c
    let m:=o.mul r.2 (L (i + 1 + c) i) (x (i + 1 + c))
    o.sub m.2 r.1 m.1
def bwdN (o : Ops) (L : Mx) (n : Nat) (st : (Nat→Int) × Bool) : Nat→(Nat→Int) × Bool
  | 0=>st
  | t + 1 =>
    let r:=bwdN o L n st t
    let s:=lessB o L r.1 (n - 1 - t) (r.1 (n - 1 - t),r.2) t
    let d:=o.div s.2 s.1 (L (n - 1 - t) (n - 1 - t))
    (setR r.1 (n - 1 - t) d.1,d.2)
def solve0 (o : Ops) (b : Bool) (l : M6) (y : R6) (n : Nat) : (Nat→Int) × Bool:=bwdN o l.at n (fwdN o l.at y.at b n) n
def sumN (o : Ops) (a b : Nat→Int) (f : Bool) : Nat→Int × Bool
  | 0=>(0,f)
  | k + 1 =>
    let r:=sumN o a b f k
    let m:=o.mul r.2 (a k) (b k)
    o.add m.2 r.1 m.1
def appN (o : Ops) (m : Mx) (b : Nat→Int) (n : Nat) (f : Bool) : Nat→(Nat→Int) × Bool
  | 0=>(fun _=>0,f)
  | i + 1 =>
    let r:=appN o m b n f i
    let s:=sumN o (m i) b r.2 n
    (setR r.1 i s.1,s.2)
def doneM (r : Mx × Bool) : M6 × Bool:=(bif r.2 then M6.zero else M6.of r.1,r.2)
def doneR (r : (Nat→Int) × Bool) : R6 × Bool:=(bif r.2 then R6.zero else R6.of r.1,r.2)
def byN {ω : Type} (z : ω) (n : Int) (b : Bool) (F : Nat→ω × Bool) : ω × Bool:=bif okN n then (bif b then (z,b) else F n.toNat) else (z,true)
def matSolve (o : Ops) (b : Bool) (p : M6 × R6 × Int × Unit) : R6 × Bool:=byN R6.zero p.2.2.1 b fun n=>doneR (solve0 o b p.1 p.2.1 n)
def matApply (o : Ops) (b : Bool) (p : M6 × R6 × Int × Unit) : R6 × Bool:=byN R6.zero p.2.2.1 b fun n=>doneR (appN o p.1.at p.2.1.at n b n)
def doneMT (e : TypeId) (r : Mx × Bool) : Option (AV × List Con):=bif r.2 then some (.val (Cod.enc M6.zero),row e r.2) else some (.val (Cod.enc (M6.of r.1)),row e r.2)
def doneRT (e : TypeId) (r : (Nat→Int) × Bool) : Option (AV × List Con):=bif r.2 then some (.val (Cod.enc R6.zero),row e r.2) else some (.val (Cod.enc (R6.of r.1)),row e r.2)
def solveT (o : Ops) (e : TypeId) (b : Bool) (l : M6) (y : R6) (k : Nat) : Option (AV × List Con):=bif !!b then some (.val (Cod.enc R6.zero),row e b) else doneRT e (solve0 o b l y k)
def applyT (o : Ops) (e : TypeId) (b : Bool) (l : M6) (y : R6) (k : Nat) : Option (AV × List Con):=bif !!b then some (.val (Cod.enc R6.zero),row e b) else doneRT e (appN o l.at y.at k b k)
end Go.Ab
namespace Go.Ab
open Go Go.Proofs
theorem S_join {α ω : Type} [Args α] [Cod ω] {P : Program} {f : FuncId} {e : TypeId} {g : Bool→α→ω × Bool} (h : ∀ a,∃ pre : α→Bool,pre a = true ∧ SumOk P f (Sc e pre g)) : SumOk P f (S e g):=by
  intro args cs r cs' hs
  unfold S at hs
  split at hs
  · rename_i r0 e' b
    split at hs
    · rename_i a h1 h2
      obtain ⟨pre,h3,h4⟩:=h a
      refine h4 _ _ _ _ ?_
      unfold Sc
      simp only [h1,h2,STr.sel,h3,cond_true]
      simpa only [STr.sel] using hs
    · simp [STr.sel] at hs
  · simp [STr.sel] at hs
def mute : Hints:=[(0,fun _=>.no)]
theorem muteFit {P : Program} {f : FuncId} : ∀ fn c,P.funcs[f]? = some fn→fn.body = some c→HFit P fn.ntmps mute c:=by
  intro fn c _ _
  refine HFit.of fun p _ h hh s s' hs=>?_
  unfold mute at hh
  simp only [findH] at hh
  split at hh
  · cases hh
    cases hs
  · cases hh
def badT (e : TypeId) (z : Value) (b : Bool) (n : Int) : Option (AV × List Con) :=
  bif decide (n < 1) then some (.val z,row e true) else bif decide (n > 6) then some (.val z,row e true) else bif !!b then some (.val z,row e b) else none
theorem badT_eq {e : TypeId} {z : Value} {b : Bool} {n : Int} (h : okN n = false) : badT e z b n = some (.val z,row e true):=by
  unfold okN at h
  unfold badT
  by_cases h1 : n < 1
  · rw [decide_eq_true h1]; rfl
  · rw [decide_eq_false h1,cond_false]
    rw [decide_eq_true (p:=1 ≤ n) (by omega),Bool.true_and,decide_eq_false_iff_not] at h
    rw [decide_eq_true (p:=n > 6) (by omega)]
    rfl
theorem okN_cases {n : Int} (h : okN n = true) : n = 1 ∨ n = 2 ∨ n = 3 ∨ n = 4 ∨ n = 5 ∨ n = 6:=by
  unfold okN at h
  simp only [Bool.and_eq_true,decide_eq_true_eq] at h
  omega
theorem doneMT_eq (e : TypeId) (r : Mx × Bool) : doneMT e r = some (.val (Cod.enc (doneM r).1),row e (doneM r).2):=pull
theorem doneRT_eq (e : TypeId) (r : (Nat→Int) × Bool) : doneRT e r = some (.val (Cod.enc (doneR r).1),row e (doneR r).2):=pull
theorem byN_no {ω : Type} (z : ω) {n : Int} (b : Bool) (F : Nat→ω × Bool) (h : okN n = false) : byN z n b F = (z,true):=by unfold byN; rw [h]; rfl
theorem endT_eq {ω : Type} [Cod ω] (e : TypeId) (z : ω) (b : Bool) (r : ω × Bool) : (bif !!b then some (AV.val (Cod.enc z),row e b) else some (AV.val (Cod.enc r.1),row e r.2)) = some (AV.val (Cod.enc (bif b then (z,b) else r).1),row e (bif b then (z,b) else r).2):=by
  cases b <;> rfl
end Go.Ab
namespace Go.Ab
open Go Go.Proofs
def matRootN (o : Ops) (b : Bool) (p : M6 × Int × Unit) : M6 × Bool:=byN M6.zero p.2.1 b fun n=>doneM (rootRows o p.1.at b n)
theorem root64_bad (o : Ops) (b : Bool) (m : M6) (n : Int) : fnSum Tryz.prog (envM o) mute 20 61 [.ptr 0 0,.val (Cod.enc m),.val (.int .i64 n)] (row 57 b) = badT 57 (Cod.enc M6.zero) b n:=by kernel_rfl
theorem ok64 : SumOk Tryz.prog 61 (S 57 (matRootN opsF)):=by
  refine S_join fun (a : M6 × Int × Unit)=>?_
  cases hn : okN a.2.1 with
  | false =>
    refine ⟨fun p=>!okN p.2.1,by simp only [hn,Bool.not_false],?_⟩
    refine Sc_okH (E:=envM opsF) gamN_ok (hB:=mute) muteFit 20 fun b p hp=>?_
    obtain ⟨m,n,_⟩:=p
    have hp' : okN n = false:=by simpa using hp
    refine ((root64_bad opsF b m n).trans (badT_eq hp')).trans ?_
    show _ = some (AV.val (Cod.enc (byN M6.zero n b _).1),row 57 (byN M6.zero n b _).2)
    rw [byN_no _ _ _ hp']
  | true =>
    rcases okN_cases hn with h | h | h | h | h | h
    · refine ⟨fun p=>decide (p.2.1 = 1),by simp only [h,decide_true],?_⟩
      refine Sc_ok (E:=envM opsF) gamN_ok 20 fun b p hp=>?_
      obtain ⟨m,n,_⟩:=p
      have hp' : n = 1:=by simpa using hp
      subst hp'
      refine (root64_1 opsF b m).trans ?_
      unfold rootT
      exact (congrArg (fun x=>bif !!b then some (AV.val (Cod.enc M6.zero),row 57 b) else x) (doneMT_eq 57 (rootRows opsF m.at b 1))).trans (endT_eq 57 M6.zero b (doneM (rootRows opsF m.at b 1)))
    · refine ⟨fun p=>decide (p.2.1 = 2),by simp only [h,decide_true],?_⟩
      refine Sc_ok (E:=envM opsF) gamN_ok 20 fun b p hp=>?_
      obtain ⟨m,n,_⟩:=p
      have hp' : n = 2:=by simpa using hp
      subst hp'
      refine (root64_2 opsF b m).trans ?_
      unfold rootT
      exact (congrArg (fun x=>bif !!b then some (AV.val (Cod.enc M6.zero),row 57 b) else x) (doneMT_eq 57 (rootRows opsF m.at b 2))).trans (endT_eq 57 M6.zero b (doneM (rootRows opsF m.at b 2)))
    · refine ⟨fun p=>decide (p.2.1 = 3),by simp only [h,decide_true],?_⟩
      refine Sc_ok (E:=envM opsF) gamN_ok 20 fun b p hp=>?_
      obtain ⟨m,n,_⟩:=p
      have hp' : n = 3:=by simpa using hp
      subst hp'
      refine (root64_3 opsF b m).trans ?_
      unfold rootT
      exact (congrArg (fun x=>bif !!b then some (AV.val (Cod.enc M6.zero),row 57 b) else x) (doneMT_eq 57 (rootRows opsF m.at b 3))).trans (endT_eq 57 M6.zero b (doneM (rootRows opsF m.at b 3)))
    · refine ⟨fun p=>decide (p.2.1 = 4),by simp only [h,decide_true],?_⟩
      refine Sc_ok (E:=envM opsF) gamN_ok 20 fun b p hp=>?_
      obtain ⟨m,n,_⟩:=p
      have hp' : n = 4:=by simpa using hp
      subst hp'
      refine (root64_4 opsF b m).trans ?_
      unfold rootT
      exact (congrArg (fun x=>bif !!b then some (AV.val (Cod.enc M6.zero),row 57 b) else x) (doneMT_eq 57 (rootRows opsF m.at b 4))).trans (endT_eq 57 M6.zero b (doneM (rootRows opsF m.at b 4)))
    · refine ⟨fun p=>decide (p.2.1 = 5),by simp only [h,decide_true],?_⟩
      refine Sc_ok (E:=envM opsF) gamN_ok 20 fun b p hp=>?_
      obtain ⟨m,n,_⟩:=p
      have hp' : n = 5:=by simpa using hp
      subst hp'
      refine (root64_5 opsF b m).trans ?_
      unfold rootT
      exact (congrArg (fun x=>bif !!b then some (AV.val (Cod.enc M6.zero),row 57 b) else x) (doneMT_eq 57 (rootRows opsF m.at b 5))).trans (endT_eq 57 M6.zero b (doneM (rootRows opsF m.at b 5)))
    · refine ⟨fun p=>decide (p.2.1 = 6),by simp only [h,decide_true],?_⟩
      refine Sc_ok (E:=envM opsF) gamN_ok 20 fun b p hp=>?_
      obtain ⟨m,n,_⟩:=p
      have hp' : n = 6:=by simpa using hp
      subst hp'
      refine (root64_6 opsF b m).trans ?_
      unfold rootT
      exact (congrArg (fun x=>bif !!b then some (AV.val (Cod.enc M6.zero),row 57 b) else x) (doneMT_eq 57 (rootRows opsF m.at b 6))).trans (endT_eq 57 M6.zero b (doneM (rootRows opsF m.at b 6)))
end Go.Ab
namespace Go.Ab
open Go Go.Proofs
structure Gs where
  q : V4
  bias : V3
  p : M6
def m6c (m : M6) : List Value:=m.a.cells ++ (m.b.cells ++ (m.c.cells ++ (m.d.cells ++ (m.e.cells ++ (m.f.cells ++ [])))))
def M6.dec : List Value→Option M6:=fun l=>match (Cod.dec (α:=M6) (.agg ⟨l⟩)) with | some m=>some m | none=>none
theorem M6.dec_law {l : List Value} {m : M6} (h : M6.dec l = some m) : l = m6c m:=by
  unfold M6.dec at h
  split at h
  · rename_i m' hm
    cases h
    have:=Cod.law _ _ hm
    injection this with h1
    injection h1
  · cases h
instance : Cod Gs where
  enc g:=.agg ⟨.int .i64 g.q.w :: .int .i64 g.q.x :: .int .i64 g.q.y :: .int .i64 g.q.z :: .int .i64 g.bias.x :: .int .i64 g.bias.y :: .int .i64 g.bias.z :: m6c g.p⟩
  dec v:=match v with
    | .agg ⟨.int .i64 a :: .int .i64 b :: .int .i64 c :: .int .i64 d :: .int .i64 x :: .int .i64 y :: .int .i64 z :: l⟩=>match M6.dec l with
      | some m=>some ⟨⟨a,b,c,d⟩,⟨x,y,z⟩,m⟩
      | none=>none
    | _=>none
  law v g h:=by
    split at h
    · split at h
      · rename_i hm
        cases h
        rw [M6.dec_law hm]
      · cases h
    · cases h
structure X13 where
  (r0 r1 r2 r3 r4 r5 r6 r7 r8 r9 r10 r11 r12 : R6)
def cellsL : List R6→List Value
  | []=>[]
  | r :: t=>r.cells ++ cellsL t
def sixs : Nat→List Value→Option (List R6)
  | _,[]=>some []
  | 0,_ :: _=>none
  | n + 1,l=>match six l with
    | some (r,t)=>match sixs n t with
      | some rs=>some (r :: rs)
      | none=>none
    | none=>none
theorem sixs_law : ∀ {n : Nat} {l : List Value} {rs : List R6},sixs n l = some rs→l = cellsL rs
  | 0,[],rs,h=>by simp only [sixs,Option.some.injEq] at h; subst h; rfl
  | n + 1,[],rs,h=>by simp only [sixs,Option.some.injEq] at h; subst h; rfl
  | 0,v :: t,rs,h=>by simp [sixs] at h
  | n + 1,v :: t,rs,h=>by
    simp only [sixs] at h
    split at h
    · rename_i r t' h1
      split at h
      · rename_i rs' h2
        cases h
        rw [six_law h1,sixs_law h2]
        rfl
      · cases h
    · cases h
def X13.rows (x : X13) : List R6:=[x.r0,x.r1,x.r2,x.r3,x.r4,x.r5,x.r6,x.r7,x.r8,x.r9,x.r10,x.r11,x.r12]
instance : Cod X13 where
  enc x:=.agg ⟨cellsL x.rows⟩
  dec v:=match v with
    | .agg ⟨l⟩=>match sixs 13 l with
      | some [r0,r1,r2,r3,r4,r5,r6,r7,r8,r9,r10,r11,r12]=>some ⟨r0,r1,r2,r3,r4,r5,r6,r7,r8,r9,r10,r11,r12⟩
      | _=>none
    | _=>none
  law v x h:=by
    split at h
    · split at h
      · rename_i hs
        cases h
        rw [sixs_law hs]
        rfl
      · cases h
    · cases h
def x13of (X : Mx) : X13:=⟨R6.of (X 0),R6.of (X 1),R6.of (X 2),R6.of (X 3),R6.of (X 4),R6.of (X 5),R6.of (X 6),R6.of (X 7),R6.of (X 8),R6.of (X 9),R6.of (X 10),R6.of (X 11),R6.of (X 12)⟩
def x13z : X13:=x13of mx0
def start (q : V4) : Gs:=⟨q,V3.zero,⟨⟨17179869184,0,0,0,0,0⟩,⟨0,17179869184,0,0,0,0⟩,⟨0,0,17179869184,0,0,0⟩,⟨0,0,0,16777216,0,0⟩,⟨0,0,0,0,16777216,0⟩,⟨0,0,0,0,0,16777216⟩⟩⟩
theorem start105 (q : V4) : fnSum Tryz.prog { gam:=[] } [] 20 48 [.val (Cod.enc q)] [] = some (.val (Cod.enc (start q)),[]):=by kernel_rfl
def spread (o : Ops) (b : Bool) (g : Gs) : Int × Bool:=o.add (o.add b g.p.a.a g.p.b.b).2 (o.add b g.p.a.a g.p.b.b).1 g.p.c.c
theorem spread109 (o : Ops) (b : Bool) (g : Gs) : fnSum Tryz.prog { gam:=gamN o } [] 20 50 [.ptr 0 0,.val (Cod.enc g)] (row 57 b) = some (.val (.int .i64 (spread o b g).1),row 57 (spread o b g).2):=by kernel_rfl
def jobsP : List (Nat × Nat):=[(0,0),(0,1),(0,2),(0,3),(0,4),(0,5),(1,0),(1,1),(1,2),(1,3),(1,4),(1,5),(2,0),(2,1),(2,2),(2,3),(2,4),(2,5),(3,0),(3,1),(3,2),(3,3),(3,4),(3,5),(4,0),(4,1),(4,2),(4,3),(4,4),(4,5),(5,0),(5,1),(5,2),(5,3),(5,4),(5,5)]
def runJ (o : Ops) (c : Int) (l : Mx) : List (Nat × Nat)→Mx × Bool→Mx × Bool
  | [],st=>st
  | (i,k) :: r,st =>
    let d:=o.mul st.2 c (l i k)
    runJ o c l r (setM (setM st.1 (1 + k) i d.1) (7 + k) i (IntKind.i64.wrap (0 - d.1)),d.2)
def points0 (o : Ops) (rt : Bool→M6 × Int × Unit→M6 × Bool) (J : List (Nat × Nat)) (b : Bool) (g : Gs) : Mx × Bool :=
  let l:=rt b (g.p,6,())
  let c:=o.sqrt l.2 7696581394432
  runJ o c.1 l.1.at J (mx0,c.2)
def pointsT (e : TypeId) (r : Mx × Bool) : Option (AV × List Con):=bif r.2 then some (.val (Cod.enc x13z),row e r.2) else some (.val (Cod.enc (x13of r.1)),row e r.2)
theorem points107 (o : Ops) (rt : Bool→M6 × Int × Unit→M6 × Bool) (b : Bool) (g : Gs) : fnSum Tryz.prog { gam:=(61,S 57 rt) :: gamN o } [] 20 52 [.ptr 0 0,.val (Cod.enc g)] (row 57 b) = pointsT 57 (points0 o rt jobsP b g):=by kernel_rfl
end Go.Ab
namespace Go.Ab
open Go
section
variable {P : Program} {N : Nat} {ops : Array Oper} {Q : Exit→Act→World→Prop} {F : Nat→Prop} {w0 : World} {s : St} {a : Act} {w : World}
theorem Here.move {σ : Nat→Option Nat} (h : Here N s σ a w) {w' : World} (hgrow : w.heap.size ≤ w'.heap.size) (hsame : ∀ b r,σ b = some r→w'.heap[r]? = w.heap[r]?) : Here N s σ a w':=by
  obtain ⟨⟨u,hf,hs⟩,hn⟩:=h
  refine ⟨⟨u,{ hf with row:=fun b e cs hb=>?_,obj:=fun b o hb=>?_,bound:=fun b r hb=>Nat.lt_of_lt_of_le (hf.bound b r hb) hgrow,ownsR:=fun b _ _ _ _ hr=>.inl ⟨b,hr⟩,ownsO:=fun b _ _ _ hr=>.inl ⟨b,hr⟩,os:=rfl,tape:=rfl,output:=rfl,grown:=Nat.le_refl _,frame:=fun _ _ _=>rfl },hs⟩,hn⟩
  · obtain ⟨r,vs,h1,h2,h3⟩:=hf.row b e cs hb
    exact ⟨r,vs,h1,by rw [hsame b r h1]; exact h2,h3⟩
  · obtain ⟨r,o',h1,h2,h3⟩:=hf.obj b o hb
    exact ⟨r,o',h1,by rw [hsame b r h1]; exact h2,h3⟩
theorem Here.put {σ : Nat→Option Nat} (h : Here N s σ a w) {d : Nat} (hd : d < N) (hlen : s.tmps.length = N) {v : AV} {x : Value} (hv : Rel σ v x) : Here N { s with tmps:=s.tmps.set d v } σ (a.put (some d) x) w:=by
  obtain ⟨⟨u,hf,hs⟩,hn⟩:=h
  refine ⟨⟨upd1 u (.tmp d) (.av v),hf.put hd hv,fun l c h=>?_⟩,hn⟩
  cases l with
  | blk b=>simpa [upd1] using hs (.blk b) c h
  | tmp t =>
    by_cases e : t = d
    · subst e
      simp only [St.u,stU,List.getElem?_set_self (by omega : t < s.tmps.length),Option.map_some,Option.some.injEq] at h
      subst h
      simp [upd1]
    · simp only [St.u,stU,List.getElem?_set_ne (Ne.symm e)] at h
      have : upd1 u (.tmp d) (.av v) (.tmp t) = u (.tmp t):=by simp [upd1,e]
      rw [this]
      exact hs _ _ h
def Wide (F : Nat→Prop) (w w' : World) : Nat→Prop:=fun j=>F j ∨ (w.heap.size ≤ j ∧ j < w'.heap.size)
theorem Stand.moved (h : Stand F w0 N s a w) {w' : World} (hgrow : w.heap.size ≤ w'.heap.size) (hsame : ∀ j,j < w.heap.size→¬ F j→w'.heap[j]? = w.heap[j]?) : Stand (Wide F w w') w' N s a w':=by
  obtain ⟨σ,h1,hk,hF⟩:=h
  have hb : ∀ b r,σ b = some r→r < w.heap.size:=by
    obtain ⟨⟨u,hf,_⟩,_⟩:=h1
    exact hf.bound
  refine ⟨σ,h1.move hgrow fun b r hr=>hsame r (hb b r hr) (hF b r hr),Keep.refl fun k hk'=>?_,fun b r hr hW=>?_⟩
  · rcases hk' with h2 | h2
    · exact Nat.lt_of_lt_of_le (hk.lt h2) hgrow
    · exact h2.2
  · rcases hW with h2 | h2
    · exact hF b r hr h2
    · have:=hb b r hr; omega
theorem Stand.put (h : Stand F w0 N s a w) {d : Nat} (hd : d < N) (hlen : s.tmps.length = N) (v : Value) : Stand F w0 N { s with tmps:=s.tmps.set d (.val v) } (a.put (some d) v) w:=by
  obtain ⟨σ,h1,h2,h3⟩:=h
  exact ⟨σ,h1.put hd hlen (by simp only [Rel]),h2,h3⟩
theorem op_world {k d : Nat} {op : Op} (hs : sigOf ops k = some (op,some d,true)) (hd : d < N) (hlen : s.tmps.length = N) (hh : Stand F w0 N s a w) {v : Value} {w' : World}
    (hrun : ∀ o : Oper,o.op = op→(execOp a.eval o).run P w = .ok (.value v) w') (hgrow : w.heap.size ≤ w'.heap.size) (hsame : ∀ j,j < w.heap.size→¬ F j→w'.heap[j]? = w.heap[j]?) (rest : List Nat)
    (hK : ∀ a',Stand (Wide F w w') w' N { s with tmps:=s.tmps.set d (.val v) } a' w'→wpOps P ops Q rest a' w') : wpOps P ops Q (k :: rest) a w:=by
  obtain ⟨o,ho,hop,hdst,hg⟩:=sigOf_some hs
  rw [wpOps_cons]
  unfold wpOp
  rw [ho]
  simp only
  rw [if_pos (by simp [Region.wanted,hg])]
  refine .inl ?_
  unfold Oper.wp
  rw [hrun o hop,Oper.upon_value,hdst]
  exact hK _ ((hh.moved hgrow hsame).put hd hlen v)
theorem op_here {k d : Nat} {op : Op} (hs : sigOf ops k = some (op,some d,true)) (hd : d < N) (hlen : s.tmps.length = N) (hh : Stand F w0 N s a w) {v : Value}
    (hrun : ∀ o : Oper,o.op = op→(execOp a.eval o).run P w = .ok (.value v) w) (rest : List Nat)
    (hK : ∀ a',Stand F w0 N { s with tmps:=s.tmps.set d (.val v) } a' w→wpOps P ops Q rest a' w) : wpOps P ops Q (k :: rest) a w:=by
  obtain ⟨o,ho,hop,hdst,hg⟩:=sigOf_some hs
  exact op_stand ho hg hdst hd hlen hh (hrun o hop) rest hK
theorem call_world {k d f : Nat} {c : Call} {fn : Func} (hs : sigOf ops k = some (.call c, some d, true)) (hd : d < N) (hlen : s.tmps.length = N) (hh : Stand F w0 N s a w) (hcal : c.callee = .value (.func f)) (hfn : P.funcs[f]? = some fn) (hb : (fn.body.isSome && !fn.name == "runtime.NumGoroutine") = true)
    {args : Array Value} (hargs : c.args.map a.eval = args) {X : Value→World→Prop} (hc : Calls P f args w fun e w'=>∃ v,e = .returned v ∧ RowKit.Below w.heap.size w w' ∧ X v w') (rest : List Nat)
    (hK : ∀ v a' w',X v w'→RowKit.Below w.heap.size w w'→Stand (Wide F w w') w' N { s with tmps:=s.tmps.set d (.val v) } a' w'→wpOps P ops Q rest a' w') : wpOps P ops Q (k :: rest) a w:=by
  obtain ⟨o,ho,hop,hdst,hg⟩:=sigOf_some hs
  rw [wpOps_cons]
  unfold wpOp
  rw [ho]
  simp only
  rw [if_pos (by simp [Region.wanted,hg])]
  refine .inl ?_
  unfold Oper.wp
  have hexec : (execOp a.eval o).run P w = .ok (.enter f args) w:=by
    have e : a.eval (.func f) = .func (.func f) #[] #[]:=rfl
    simp only [execOp,hop,resolve,hcal,e,Deferred.ofValue,Sem.run_bind,Sem.run_pure,Result.andThen_ok,invoke,run_callFunc hfn hb,hargs,Array.empty_append,Array.append_empty]
  rw [hexec]
  simp only [Oper.upon]
  refine Calls.mono hc fun e w' he=>?_
  obtain ⟨v,rfl,h1,h2⟩:=he
  simp only
  rw [hdst]
  exact hK v _ w' h2 h1 ((hh.moved h1.size fun j hj _=>h1.block j hj).put hd hlen v)
theorem hget_own {H : Hp} {b : Nat} {c : Con} {s : St} (hs : s.heap = H) (h : hget H b = some c) : s.u (.blk b) = some c:=by subst hs; exact h
theorem own_index {k d : Nat} {t elem : TypeId} {n : Nat} {x ix : Nat} {ti : TypeInfo} (hs : sigOf ops k = some (.indexAddr t (.tmp x) (.tmp ix),some d,true)) (hd : d < N) (hlen : s.tmps.length = N) (hu : P.underlying t = some (.array n elem)) (hi : P.info? elem = some ti) (h1 : ti.size = 1)
    (hh : Stand F w0 N s a w) {b j : Nat} {ik : IntKind} (hx : s.tmps[x]? = some (.ptr b 0)) (hix : s.tmps[ix]? = some (.val (.int ik j))) (hlt : j < n) (rest : List Nat)
    (hK : ∀ a',Stand F w0 N { s with tmps:=s.tmps.set d (.ptr b j) } a' w→wpOps P ops Q rest a' w) : wpOps P ops Q (k :: rest) a w:=by
  have hjx:=hh.eval hix
  obtain ⟨o,ho,hop,hdst,hg⟩:=sigOf_some hs
  obtain ⟨σ,h2,h3,h4⟩:=hh
  obtain ⟨y,hy,hrel⟩:=h2.tmp hx
  simp only [Rel] at hrel
  obtain ⟨r,hr,rfl⟩:=hrel
  rw [wpOps_cons]
  unfold wpOp
  rw [ho]
  simp only
  rw [if_pos (by simp [Region.wanted,hg])]
  refine .inl ?_
  unfold Oper.wp
  have hxe : a.eval (.tmp x) = .pointer (some ⟨r,0,none⟩):=by simp [Act.eval,hy]
  have hb : 0 ≤ (j : Int) ∧ (j : Int) < (n : Int):=by omega
  have hrun : (execOp a.eval o).run P w = .ok (.value (.pointer (some ⟨r,j,none⟩))) w:=by
    simp only [execOp,hop,Instr.indexAt,hjx,asIntOf,Sem.run_bind,run_underlying hu,Result.andThen_ok,hxe,Instr.sureAddr,Sem.run_pure,Sem.run_ite,if_pos hb,run_sizeOf hi,Int.toNat_natCast,h1,Nat.mul_one,addr_add,Nat.zero_add]
  rw [hrun,Oper.upon_value,hdst]
  exact hK _ ⟨σ,h2.put hd hlen (by simp only [Rel]; exact ⟨r,hr,rfl⟩),h3,h4⟩
theorem own_load {k d : Nat} {t : TypeId} {x : Nat} {td : TypeDesc} (hs : sigOf ops k = some (.load t (.tmp x),some d,true)) (hd : d < N) (hlen : s.tmps.length = N) (hu : P.underlying t = some td) (hag : isAggD td = false)
    (hh : Stand F w0 N s a w) {b j e : Nat} {cs : List AV} {v : Value} (hx : s.tmps[x]? = some (.ptr b j)) (hrow : hget s.heap b = some (.row e cs)) (hv : cs[j]? = some (.val v)) (rest : List Nat)
    (hK : ∀ a',Stand F w0 N { s with tmps:=s.tmps.set d (.val v) } a' w→wpOps P ops Q rest a' w) : wpOps P ops Q (k :: rest) a w:=by
  obtain ⟨σ,h2,h3,h4⟩:=hh
  obtain ⟨y,hy,hrel⟩:=h2.tmp hx
  simp only [Rel] at hrel
  obtain ⟨r,hr,rfl⟩:=hrel
  have hxe : a.eval (.tmp x) = .pointer (some ⟨r,j,none⟩):=by simp [Act.eval,hy]
  have hcell : w.cell? ⟨r,j,none⟩ = some v:=by
    obtain ⟨⟨u,hf,hsub⟩,_⟩:=h2
    obtain ⟨r',vs,h5,h6,h7⟩:=hf.row b e cs (hsub _ _ (hget_own rfl hrow))
    rw [hr] at h5
    cases h5
    obtain ⟨z,hz,hzr⟩:=Rels.get h7 hv
    simp only [Rel] at hzr
    subst hzr
    simp [World.cell?,h6,hz]
  refine load_stand hs hd hlen ⟨σ,h2,h3,h4⟩ hxe (run_loadScalar hu hag hcell) rest hK
end
end Go.Ab
namespace Go.Ab
open Go Go.Proofs
def fmBase (o : Ops) (m : M9) (f : Bool) : V3 × Bool :=
  let x:=o.sub f m.b.z m.c.y
  let y:=o.sub x.2 m.c.x m.a.z
  let z:=o.sub y.2 m.a.y m.b.x
  (⟨x.1,y.1,z.1⟩,z.2)
def fmL (o : Ops) (un : Bool→V4 × Unit→V4 × Bool) (m : M9) (t : Int) (f : Bool) : V4 × Bool :=
  let r:=fmBase o m f
  let w:=o.add r.2 1099511627776 t
  un w.2 (⟨r.1.x,r.1.y,r.1.z,w.1⟩,())
def fmD (o : Ops) (f : Bool) (p q r : Int) : Int × Bool :=
  let a:=o.add f 1099511627776 p
  let b:=o.sub a.2 a.1 q
  o.sub b.2 b.1 r
def fm0 (o : Ops) (un : Bool→V4 × Unit→V4 × Bool) (m : M9) (f : Bool) : V4 × Bool :=
  let r:=fmBase o m f
  let d:=fmD o r.2 m.a.x m.b.y m.c.z
  let j:=o.add d.2 m.a.y m.b.x
  let k:=o.add j.2 m.a.z m.c.x
  un k.2 (⟨d.1,j.1,k.1,r.1.x⟩,())
def fm1 (o : Ops) (un : Bool→V4 × Unit→V4 × Bool) (m : M9) (f : Bool) : V4 × Bool :=
  let r:=fmBase o m f
  let d:=fmD o r.2 m.b.y m.c.z m.a.x
  let j:=o.add d.2 m.b.z m.c.y
  let k:=o.add j.2 m.b.x m.a.y
  un k.2 (⟨k.1,d.1,j.1,r.1.y⟩,())
def fm2 (o : Ops) (un : Bool→V4 × Unit→V4 × Bool) (m : M9) (f : Bool) : V4 × Bool :=
  let r:=fmBase o m f
  let d:=fmD o r.2 m.c.z m.a.x m.b.y
  let j:=o.add d.2 m.c.x m.a.z
  let k:=o.add j.2 m.c.y m.b.z
  un k.2 (⟨j.1,k.1,d.1,r.1.z⟩,())
def fmT (o : Ops) (m : M9) (b : Bool) : Int × Bool:=o.add (o.add b m.a.x m.b.y).2 (o.add b m.a.x m.b.y).1 m.c.z
def flow3 (o : Ops) (r : V3) (f : Bool) : Bool:=(each3 f (fun b=>o.add b r.x 0) (fun b=>o.add b r.y 0) (fun b=>o.add b r.z 0)).2
def fmF (o : Ops) (m : M9) (b : Bool) : Bool:=flow3 o m.c (flow3 o m.b (flow3 o m.a (fmT o m b).2))
def fmPick {α : Type} (m : M9) (t : Int) (l k0 k1 k2 : α) : α :=
  bif decide (m.a.x > t) then (bif decide (m.b.y > m.a.x) then (bif decide (m.c.z > m.b.y) then k2 else k1) else (bif decide (m.c.z > m.a.x) then k2 else k0))
  else (bif decide (m.b.y > t) then (bif decide (m.c.z > m.b.y) then k2 else k1) else (bif decide (m.c.z > t) then k2 else l))
def fromMat (o : Ops) (un : Bool→V4 × Unit→V4 × Bool) (b : Bool) (p : M9 × Unit) : V4 × Bool :=
  bif fmF o p.1 b then (V4.zero,fmF o p.1 b) else
    fmPick p.1 (fmT o p.1 b).1 (fmL o un p.1 (fmT o p.1 b).1 (fmF o p.1 b)) (fm0 o un p.1 (fmF o p.1 b)) (fm1 o un p.1 (fmF o p.1 b)) (fm2 o un p.1 (fmF o p.1 b))
def sayR {ω : Type} [Cod ω] (e : TypeId) (r : ω × Bool) : Option (AV × List Con):=some (.val (Cod.enc r.1),row e r.2)
def fmTree (o : Ops) (un : Bool→V4 × Unit→V4 × Bool) (e : TypeId) (b : Bool) (m : M9) : Option (AV × List Con) :=
  bif fmF o m b then sayR e (V4.zero,fmF o m b) else
    fmPick m (fmT o m b).1 (sayR e (fmL o un m (fmT o m b).1 (fmF o m b))) (sayR e (fm0 o un m (fmF o m b))) (sayR e (fm1 o un m (fmF o m b))) (sayR e (fm2 o un m (fmF o m b)))
theorem fmTree_eq (o : Ops) (un : Bool→V4 × Unit→V4 × Bool) (e : TypeId) (b : Bool) (m : M9) : fmTree o un e b m = some (.val (Cod.enc (fromMat o un b (m,())).1),row e (fromMat o un b (m,())).2):=by
  unfold fmTree fromMat fmPick sayR
  dsimp only
  generalize (fmT o m b).1 = t
  cases fmF o m b <;> cases decide (m.a.x > t) <;> cases decide (m.b.y > m.a.x) <;> cases decide (m.c.z > m.b.y) <;> cases decide (m.c.z > m.a.x) <;> cases decide (m.b.y > t) <;> cases decide (m.c.z > t) <;> rfl
theorem mat100 (o : Ops) (un : Bool→V4 × Unit→V4 × Bool) (b : Bool) (m : M9) : fnSum Tryz.prog { gam:=(133,S 57 un) :: (146,S 57 (vop o.add)) :: gamN o } [] 20 228 [.ptr 0 0,.val (Cod.enc m)] (row 57 b) = fmTree o un 57 b m:=by kernel_rfl
end Go.Ab
namespace Go.Ab
open Go Go.Proofs
structure P2 where
  a : V3
  b : V3
instance : Cod P2 where
  enc m:=.agg #[.int .i64 m.a.x,.int .i64 m.a.y,.int .i64 m.a.z,.int .i64 m.b.x,.int .i64 m.b.y,.int .i64 m.b.z]
  dec v:=match v with | .agg ⟨[.int .i64 a,.int .i64 b,.int .i64 c,.int .i64 d,.int .i64 e,.int .i64 f]⟩=>some ⟨⟨a,b,c⟩,⟨d,e,f⟩⟩ | _=>none
  law v a h:=by split at h <;> simp_all; subst h; simp
theorem gamU_ok : GamOk Tryz.prog ((133,S 57 (qunit opsF)) :: (146,S 57 (vop opsF.add)) :: gamN opsF):=.cons ok72 (.cons ok50 gamN_ok)
theorem ok100 : SumOk Tryz.prog 228 (S 57 (fromMat opsF (qunit opsF))):=S_ok gamU_ok 20 fun b a=>(mat100 opsF (qunit opsF) b a.1).trans (fmTree_eq opsF (qunit opsF) 57 b a.1)
def apart (pa : Bool→V3 × V3 × Unit→Two Int Int × Bool) (b : Bool) (p : V3 × V3 × Unit) : Bool × Bool :=
  (bif !(pa b p).2 then decide ((pa b p).1.a ≥ 190928190487) else false,(pa b p).2)
theorem apart96 (pa : Bool→V3 × V3 × Unit→Two Int Int × Bool) (b : Bool) (x y : V3) : fnSum Tryz.prog { gam:=[(222,S 57 pa)] } [] 20 172 [.ptr 0 0,.val (Cod.enc x),.val (Cod.enc y)] (row 57 b) =
    bif !(pa b (x,y,())).2 then some (.val (.bool (decide ((pa b (x,y,())).1.a ≥ 190928190487))),row 57 (pa b (x,y,())).2) else some (.val (.bool false),row 57 (pa b (x,y,())).2):=by kernel_rfl
theorem ok96 : SumOk Tryz.prog 172 (S 57 (apart (vparts vopsF))):=S_ok (E:={ gam:=[(222,S 57 (vparts vopsF))] }) (.cons ok74 .nil) 20 fun b a=>by
  refine (apart96 (vparts vopsF) b a.1 a.2.1).trans ?_
  unfold apart
  generalize (vparts vopsF b a) = r
  obtain ⟨_,f⟩:=r
  cases f <;> rfl
def frame (v : VOps) (b : Bool) (p : P2 × Unit) : M9 × Bool :=
  let u:=v.unit b (p.1.a,())
  let w:=v.unit u.2 (p.1.b,())
  let c:=v.cross w.2 (u.1,w.1,())
  let n:=v.unit c.2 (c.1,())
  let x:=v.cross n.2 (u.1,n.1,())
  (⟨u.1,n.1,x.1⟩,x.2)
theorem frame150 (v : VOps) (b : Bool) (p : P2) : fnSum Tryz.prog { gam:=gamV v } [] 20 227 [.ptr 0 0,.val (Cod.enc p)] (row 57 b) = some (.val (Cod.enc (frame v b (p,())).1),row 57 (frame v b (p,())).2):=by kernel_rfl
theorem ok150 : SumOk Tryz.prog 227 (S 57 (frame vopsF)):=S_ok gamV_ok 20 fun b a=>frame150 vopsF b a.1
end Go.Ab
namespace Go.Ab
open Go Go.Proofs
def M9.c0 (m : M9) : V3:=⟨m.a.x,m.b.x,m.c.x⟩
def M9.c1 (m : M9) : V3:=⟨m.a.y,m.b.y,m.c.y⟩
def M9.c2 (m : M9) : V3:=⟨m.a.z,m.b.z,m.c.z⟩
def entP (o : Ops) (f : Bool) (x y : V3) : Int × Bool :=
  let m:=o.mul f x.x y.x
  let a:=o.add m.2 0 m.1
  let n:=o.mul a.2 x.y y.y
  let b:=o.add n.2 a.1 n.1
  let k:=o.mul b.2 x.z y.z
  o.add k.2 b.1 k.1
def rowBy (ent : Bool→V3→V3→Int × Bool) (x : V3) (s : M9) (f : Bool) : V3 × Bool:=each3 f (fun b=>ent b x s.c0) (fun b=>ent b x s.c1) (fun b=>ent b x s.c2)
def matBy (ent : Bool→V3→V3→Int × Bool) (t s : M9) (f : Bool) : M9 × Bool :=
  let a:=rowBy ent t.c0 s f
  let b:=rowBy ent t.c1 s a.2
  let c:=rowBy ent t.c2 s b.2
  (⟨a.1,b.1,c.1⟩,c.2)
def attRest (ent : Bool→V3→V3→Int × Bool) (fr : Bool→P2 × Unit→M9 × Bool) (fm : Bool→M9 × Unit→V4 × Bool) (sky body : P2) (f : Bool) : V4 × Bool :=
  let s:=fr f (sky,())
  let t:=fr s.2 (body,())
  let m:=matBy ent t.1 s.1 t.2
  fm m.2 (m.1,())
theorem att98 (o : Ops) (ap : Bool→V3 × V3 × Unit→Bool × Bool) (fr : Bool→P2 × Unit→M9 × Bool) (fm : Bool→M9 × Unit→V4 × Bool) (b : Bool) (sky body : P2) :
    fnSum Tryz.prog { gam:=(172,S 57 ap) :: (227,S 57 fr) :: (228,S 57 fm) :: gamN o } [] 20 174 [.ptr 0 0,.val (Cod.enc sky),.val (Cod.enc body)] (row 57 b) =
      let a:=ap b (sky.a,sky.b,()); let c:=ap a.2 (body.a,body.b,())
      bif !a.1 then sayR 57 (V4.zero,true) else bif !c.1 then sayR 57 (V4.zero,true) else sayR 57 (attRest (entP o) fr fm sky body c.2):=by kernel_rfl
end Go.Ab
namespace Go.Ab
open Go Go.Proofs
def attitude (b : Bool) (p : P2 × P2 × Unit) : V4 × Bool :=
  let a:=apart (vparts vopsF) b (p.1.a,p.1.b,()); let c:=apart (vparts vopsF) a.2 (p.2.1.a,p.2.1.b,())
  bif !a.1 then (V4.zero,true) else bif !c.1 then (V4.zero,true) else attRest (entP opsF) (frame vopsF) (fromMat opsF (qunit opsF)) p.1 p.2.1 c.2
theorem bif_sayR {ω : Type} [Cod ω] {e : TypeId} {c : Bool} {x y : ω × Bool} : (bif c then sayR e x else sayR e y) = sayR e (bif c then x else y):=by cases c <;> rfl
theorem ok98 : SumOk Tryz.prog 174 (S 57 attitude):=by
  refine S_ok (E:={ gam:=(172,S 57 (apart (vparts vopsF))) :: (227,S 57 (frame vopsF)) :: (228,S 57 (fromMat opsF (qunit opsF))) :: gamN opsF }) (.cons ok96 (.cons ok150 (.cons ok100 gamN_ok))) 20 fun b a=>?_
  refine (att98 opsF (apart (vparts vopsF)) (frame vopsF) (fromMat opsF (qunit opsF)) b a.1 a.2.1).trans ?_
  dsimp only
  rw [bif_sayR,bif_sayR]
  rfl
end Go.Ab
namespace Go.Ab
open Go Go.Proofs
class CodL (α : Type) where
  encl : α→List Value
  decl : List Value→Option (α × List Value)
  law : ∀ l a r,decl l = some (a,r)→l = encl a ++ r
instance : CodL Int where
  encl x:=[.int .i64 x]
  decl l:=match l with | .int .i64 x :: r=>some (x,r) | _=>none
  law l a r h:=by split at h <;> simp_all
instance : CodL Bool where
  encl x:=[.bool x]
  decl l:=match l with | .bool x :: r=>some (x,r) | _=>none
  law l a r h:=by split at h <;> simp_all
instance : CodL ByteArray where
  encl x:=[.string x]
  decl l:=match l with | .string x :: r=>some (x,r) | _=>none
  law l a r h:=by split at h <;> simp_all
instance {α β : Type} [CodL α] [CodL β] : CodL (α × β) where
  encl p:=CodL.encl p.1 ++ CodL.encl p.2
  decl l:=match CodL.decl (α:=α) l with
    | some (a,r)=>(match CodL.decl (α:=β) r with
      | some (b,t)=>some ((a,b),t)
      | none=>none)
    | none=>none
  law l a r h:=by
    split at h
    · rename_i x y hx
      split at h
      · rename_i z t hz
        cases h
        rw [CodL.law _ _ _ hx,CodL.law _ _ _ hz,List.append_assoc]
      · cases h
    · cases h
abbrev codIso {α β : Type} [CodL β] (to : α→β) (of : β→α) (h : ∀ b,to (of b) = b) : CodL α where
  encl a:=CodL.encl (to a)
  decl l:=match CodL.decl (α:=β) l with | some (b,r)=>some (of b,r) | none=>none
  law l a r hh:=by
    split at hh
    · rename_i b t hb
      cases hh
      rw [h,CodL.law _ _ _ hb]
    · cases hh
instance : CodL V3:=codIso (β:=Int × Int × Int) (fun v=>(v.x,v.y,v.z)) (fun p=>⟨p.1,p.2.1,p.2.2⟩) fun _=>rfl
instance : CodL V4:=codIso (β:=Int × Int × Int × Int) (fun v=>(v.w,v.x,v.y,v.z)) (fun p=>⟨p.1,p.2.1,p.2.2.1,p.2.2.2⟩) fun _=>rfl
instance : CodL R6:=codIso (β:=Int × Int × Int × Int × Int × Int) (fun v=>(v.a,v.b,v.c,v.d,v.e,v.f)) (fun p=>⟨p.1,p.2.1,p.2.2.1,p.2.2.2.1,p.2.2.2.2.1,p.2.2.2.2.2⟩) fun _=>rfl
instance : CodL M6:=codIso (β:=R6 × R6 × R6 × R6 × R6 × R6) (fun v=>(v.a,v.b,v.c,v.d,v.e,v.f)) (fun p=>⟨p.1,p.2.1,p.2.2.1,p.2.2.2.1,p.2.2.2.2.1,p.2.2.2.2.2⟩) fun _=>rfl
instance : CodL Gs:=codIso (β:=V4 × V3 × M6) (fun v=>(v.q,v.bias,v.p)) (fun p=>⟨p.1,p.2.1,p.2.2⟩) fun _=>rfl
instance : CodL Pl:=codIso (β:=Int × Int × Int × Int × Int × Int) (fun v=>(v.mode,v.calm,v.good,v.miss,v.lost,v.faults)) (fun p=>⟨p.1,p.2.1,p.2.2.1,p.2.2.2.1,p.2.2.2.2.1,p.2.2.2.2.2⟩) fun _=>rfl
instance : CodL Sn:=codIso (β:=Bool × Bool × Bool × Bool × Bool × Bool × Bool × Int) (fun v=>(v.gap,v.gyro,v.slow,v.pair,v.lit,v.bad,v.pass,v.order)) (fun p=>⟨p.1,p.2.1,p.2.2.1,p.2.2.2.1,p.2.2.2.2.1,p.2.2.2.2.2.1,p.2.2.2.2.2.2.1,p.2.2.2.2.2.2.2⟩) fun _=>rfl
instance : CodL P2:=codIso (β:=V3 × V3) (fun v=>(v.a,v.b)) (fun p=>⟨p.1,p.2⟩) fun _=>rfl
instance : CodL Orb:=codIso (β:=Int × Int × Int × Int × Int × Int × Int) (fun v=>(v.a,v.e,v.i,v.node,v.peri,v.m,v.tk)) (fun p=>⟨p.1,p.2.1,p.2.2.1,p.2.2.2.1,p.2.2.2.2.1,p.2.2.2.2.2.1,p.2.2.2.2.2.2⟩) fun _=>rfl
instance : CodL Dr:=codIso (β:=Bool × Int × V3 × V3) (fun v=>(v.on,v.tick,v.last,v.rate)) (fun p=>⟨p.1,p.2.1,p.2.2.1,p.2.2.2⟩) fun _=>rfl
structure Crf where
  on : Bool
  tk : Int
  left : ByteArray
  plan : Pl
  placed : Bool
  orb : Orb
  drift : Dr
  guess : Gs
  ack : Int
  err : Int
  rej : Int
instance : CodL Crf:=codIso (β:=Bool × Int × ByteArray × Pl × Bool × Orb × Dr × Gs × Int × Int × Int) (fun v=>(v.on,v.tk,v.left,v.plan,v.placed,v.orb,v.drift,v.guess,v.ack,v.err,v.rej))
  (fun p=>⟨p.1,p.2.1,p.2.2.1,p.2.2.2.1,p.2.2.2.2.1,p.2.2.2.2.2.1,p.2.2.2.2.2.2.1,p.2.2.2.2.2.2.2.1,p.2.2.2.2.2.2.2.2.1,p.2.2.2.2.2.2.2.2.2.1,p.2.2.2.2.2.2.2.2.2.2⟩) fun _=>rfl
structure Rdg where
  kind : Int
  tk : Int
  v : V3
instance : CodL Rdg:=codIso (β:=Int × Int × V3) (fun v=>(v.kind,v.tk,v.v)) (fun p=>⟨p.1,p.2.1,p.2.2⟩) fun _=>rfl
structure Rds where
  p1 : Bool
  r1 : Rdg
  p2 : Bool
  r2 : Rdg
  p3 : Bool
  r3 : Rdg
structure Stp where
  tk : Int
  gap : Int
  sky : P2
  body : P2
  seen : Sn
def rdgV (r : Rdg) : Value:=.agg (List.toArray (CodL.encl r))
def rdsBuf (r : Rds) : List Value:=[.int .i64 1,.bool r.p1,rdgV r.r1,.int .i64 2,.bool r.p2,rdgV r.r2,.int .i64 3,.bool r.p3,rdgV r.r3]
def rdsObj (r : Rds) : Obj:=.chan 1 (List.toArray (rdsBuf r)) false 0 0 false
def stpRow (s : Stp) : List AV:=.ptr 1 0 :: .val (.int .i64 s.tk) :: .val (.int .i64 s.gap) :: .map 2 :: ((CodL.encl s.sky ++ (CodL.encl s.body ++ CodL.encl s.seen)).map AV.val)
def crfRow (c : Crf) : List AV:=(CodL.encl c).map AV.val
def stpBlk (s : Stp) (c : Crf) (r : Rds) : List Con:=[.row 145 (stpRow s),.row 44 (crfRow c),.obj (rdsObj r)]
def unit0 : AV:=.val (.tuple (List.toArray []))
def rejV (n : Int) : Int:=IntKind.i64.wrap ((if (65534 : Int) < n then 65534 else n) + 1)
theorem reject163 (s : Stp) (c : Crf) (r : Rds) : fnSum Tryz.prog { gam:=[] } [] 20 163 [.ptr 0 0] (stpBlk s c r) = some (unit0,stpBlk s { c with rej:=rejV c.rej } r):=by kernel_rfl
end Go.Ab
namespace Go.Ab
open Go
variable {α ω : Type}
instance : Cod ByteArray where
  enc s:=.string s
  dec v:=match v with | .string s=>some s | _=>none
  law v a h:=by split at h <;> simp_all
structure N16 where
  n : Nat
instance : Cod N16 where
  enc x:=.int .u16 x.n
  dec v:=match v with | .int .u16 (.ofNat n)=>some ⟨n⟩ | _=>none
  law v a h:=by split at h <;> simp_all; subst h; rfl
def S0w [Args α] [Cod ω] (pre : α→Bool) (g : α→ω) : Summary:=fun args cs=>match cs with
  | []=>match Args.decs (α:=α) args with
    | some a=>.test (pre a) (.ret (.val (Cod.enc (g a))) []) .no
    | none=>.no
  | _ :: _=>.no
theorem S0w_sel [Args α] [Cod ω] {pre : α→Bool} {g : α→ω} {args : List AV} {cs cs' : List Con} {r : AV} (h : (S0w pre g args cs).sel = some (r,cs')) :
    ∃ a,pre a = true ∧ args = Args.encs a ∧ cs = [] ∧ r = .val (Cod.enc (g a)) ∧ cs' = []:=by
  unfold S0w at h
  split at h
  · split at h
    · rename_i a ha
      cases hp : pre a with
      | false=>rw [hp] at h; simp [STr.sel] at h
      | true =>
        rw [hp] at h
        simp only [STr.sel,cond_true,Option.some.injEq,Prod.mk.injEq] at h
        obtain ⟨rfl,rfl⟩:=h
        exact ⟨a,hp,Args.law _ _ ha,rfl,rfl,rfl⟩
    · simp [STr.sel] at h
  · simp [STr.sel] at h
class Plains (α : Type) [Args α] where
  vals : α→List Value
  law : ∀ a : α,Args.encs a = (vals a).map AV.val
instance : Plains Unit where
  vals _:=[]
  law _:=rfl
instance {α β : Type} [Cod α] [Args β] [Plains β] : Plains (α × β) where
  vals p:=Cod.enc p.1 :: Plains.vals p.2
  law a:=by show _ :: Args.encs a.2 = _; rw [Plains.law a.2]; rfl
theorem rels_vals {σ : Nat→Option Nat} : ∀ (l vs : List Value),Rels σ (l.map AV.val) vs→vs = l
  | [],vs,h=>by simpa only [List.map_nil,Rels] using h
  | v :: l,vs,h=>by
    simp only [List.map_cons,Rels] at h
    obtain ⟨x,xs,rfl,h1,h2⟩:=h
    simp only [Rel] at h1
    rw [h1,rels_vals l xs h2]
theorem S0w_of [Args α] [Plains α] [Cod ω] {P : Program} {f : FuncId} {pre : α→Bool} {g : α→ω}
    (h : ∀ a w,pre a = true→Calls P f (List.toArray (Plains.vals a)) w fun e w'=>∃ v,e = .returned v ∧ RowKit.Below w.heap.size w w' ∧ v = Cod.enc (g a)) : SumOk P f (S0w pre g):=by
  intro args cs r cs' hs
  obtain ⟨a,hp,rfl,rfl,rfl,rfl⟩:=S0w_sel hs
  refine ⟨by simp,fun σ vals w hinj hbd hvals _ _=>?_⟩
  rw [Plains.law] at hvals
  obtain rfl:=rels_vals _ _ hvals
  refine Calls.mono (h a w hp) fun e w' he=>?_
  obtain ⟨v,rfl,hb,rfl⟩:=he
  refine ⟨σ,_,rfl,Le.refl σ,fun b hb _=>hb,by simp only [Rel],fun b c hb=>?_,hinj,fun b r hr=>Nat.lt_of_lt_of_le (hbd b r hr) hb.size,fun b c hb=>?_,hb.os,hb.tape,hb.output,hb.size,fun k hk _=>hb.block k hk⟩
  · simp [numH,hget] at hb
  · simp [numH,hget] at hb
end Go.Ab
namespace Go.Ab
open Go Go.Proofs
abbrev CX:=Stp × Crf × Rds
def stpX (x : CX) : List Con:=stpBlk x.1 x.2.1 x.2.2
def unitV : Value:=.tuple (List.toArray [])
def unV : List AV→Option (List Value)
  | []=>some []
  | .val v :: r=>match unV r with
    | some l=>some (v :: l)
    | none=>none
  | _ :: _=>none
theorem unV_law : ∀ (l : List AV) (vs : List Value),unV l = some vs→l = vs.map AV.val
  | [],vs,h=>by simp only [unV,Option.some.injEq] at h; subst h; rfl
  | a :: r,vs,h=>by
    cases a with
    | val v =>
      simp only [unV] at h
      cases hr : unV r with
      | none=>rw [hr] at h; cases h
      | some l =>
        rw [hr] at h
        simp only [Option.some.injEq] at h
        subst h
        rw [unV_law r l hr]
        rfl
    | _=>simp [unV] at h
def decAll (α : Type) [CodL α] (l : List Value) : Option α:=match CodL.decl (α:=α) l with
  | some (a,[])=>some a
  | _=>none
theorem decAll_law {α : Type} [CodL α] {l : List Value} {a : α} (h : decAll α l = some a) : l = CodL.encl a:=by
  unfold decAll at h
  split at h
  · rename_i x hx
    cases h
    have:=CodL.law _ _ _ hx
    rw [this,List.append_nil]
  · cases h
def decRow (α : Type) [CodL α] (l : List AV) : Option α:=match unV l with
  | some vs=>decAll α vs
  | none=>none
theorem decRow_law {α : Type} [CodL α] {l : List AV} {a : α} (h : decRow α l = some a) : l = (CodL.encl a).map AV.val:=by
  unfold decRow at h
  split at h
  · rename_i vs hv
    rw [unV_law _ _ hv,decAll_law h]
  · cases h
def decStpRow : List AV→Option Stp
  | .ptr 1 0 :: .val (.int .i64 tk) :: .val (.int .i64 gap) :: .map 2 :: r=>match decRow (P2 × P2 × Sn) r with
    | some p=>some ⟨tk,gap,p.1,p.2.1,p.2.2⟩
    | none=>none
  | _=>none
theorem decStpRow_law {l : List AV} {s : Stp} (h : decStpRow l = some s) : l = stpRow s:=by
  unfold decStpRow at h
  split at h
  · split at h
    · rename_i p hp
      cases h
      rw [decRow_law hp]
      rfl
    · cases h
  · cases h
def decRdg : Value→Option Rdg
  | .agg a=>decAll Rdg a.toList
  | _=>none
theorem decRdg_law {v : Value} {r : Rdg} (h : decRdg v = some r) : v = rdgV r:=by
  unfold decRdg at h
  split at h
  · rename_i a
    have:=decAll_law h
    unfold rdgV
    rw [← this]
  · cases h
def decRds : List Value→Option Rds
  | [.int .i64 1,.bool p1,v1,.int .i64 2,.bool p2,v2,.int .i64 3,.bool p3,v3]=>match decRdg v1,decRdg v2,decRdg v3 with
    | some a,some b,some c=>some ⟨p1,a,p2,b,p3,c⟩
    | _,_,_=>none
  | _=>none
theorem decRds_law {l : List Value} {r : Rds} (h : decRds l = some r) : l = rdsBuf r:=by
  unfold decRds at h
  split at h
  · split at h
    · rename_i a b c h1 h2 h3
      cases h
      rw [decRdg_law h1,decRdg_law h2,decRdg_law h3]
      rfl
    · cases h
  · cases h
def decStp : List Con→Option CX
  | [.row e sr,.row e' cr,.obj (.chan 1 buf false 0 0 false)]=>match Nat.beq e 145,Nat.beq e' 44,decStpRow sr,decRow Crf cr,decRds buf.toList with
    | true,true,some s,some c,some r=>some (s,c,r)
    | _,_,_,_,_=>none
  | _=>none
theorem decStp_law {cs : List Con} {x : CX} (h : decStp cs = some x) : cs = stpX x:=by
  unfold decStp at h
  split at h
  · rename_i e sr e' cr buf
    split at h
    · rename_i s c r h1 h2 h3 h4 h5
      cases h
      rw [Nat.eq_of_beq_eq_true h1,Nat.eq_of_beq_eq_true h2,decStpRow_law h3,decRow_law h4]
      have : buf = List.toArray (rdsBuf r):=by rw [← decRds_law h5]
      rw [this]
      rfl
    · cases h
  · cases h
variable {α : Type} [Args α]
def SM (pre : CX→α→Bool) (g : CX→α→Value × CX) : Summary:=fun args cs=>match args with
  | .ptr 0 0 :: r=>match Args.decs (α:=α) r,decStp cs with
    | some a,some x=>.test (pre x a) (.ret (.val (g x a).1) (stpX (g x a).2)) .no
    | _,_=>.no
  | _=>.no
theorem SM_sel {pre : CX→α→Bool} {g : CX→α→Value × CX} {args : List AV} {cs cs' : List Con} {r : AV} (h : (SM pre g args cs).sel = some (r,cs')) :
    ∃ x a,pre x a = true ∧ args = .ptr 0 0 :: Args.encs a ∧ cs = stpX x ∧ r = .val (g x a).1 ∧ cs' = stpX (g x a).2:=by
  unfold SM at h
  split at h
  · split at h
    · rename_i a x h1 h2
      simp only [STr.sel] at h
      cases hp : pre x a with
      | false=>rw [hp] at h; cases h
      | true =>
        rw [hp] at h
        simp only [cond_true,Option.some.injEq,Prod.mk.injEq] at h
        obtain ⟨rfl,rfl⟩:=h
        exact ⟨x,a,hp,by rw [Args.law _ _ h1],decStp_law h2,rfl,rfl⟩
    · simp [STr.sel] at h
  · simp [STr.sel] at h
theorem SM_ok {P : Program} {E : Env} (hG : GamOk P E.gam) {f : FuncId} {pre : CX→α→Bool} {g : CX→α→Value × CX} (d : Nat)
    (h : ∀ x a,pre x a = true→fnSum P E [] d f (.ptr 0 0 :: Args.encs a) (stpX x) = some (.val (g x a).1,stpX (g x a).2)) : SumOk P f (SM pre g):=by
  refine sumOk_of hG fun args cs r cs' hs=>?_
  obtain ⟨x,a,hp,rfl,rfl,rfl,rfl⟩:=SM_sel hs
  exact ⟨by simp [stpX,stpBlk],d,h x a hp⟩
theorem S0_of_w {ω : Type} [Cod ω] {P : Program} {f : FuncId} {g : α→ω} (h : SumOk P f (S0w (fun _=>true) g)) : SumOk P f (S0 g):=by
  intro args cs r cs' hs
  refine h args cs r cs' ?_
  unfold S0 at hs
  unfold S0w
  split at hs
  · split at hs
    · rename_i a ha
      rw [ha]
      exact hs
    · simp [STr.sel] at hs
  · simp [STr.sel] at hs
theorem blk_cond (b : Bool) (x y : CX) : (bif b then some (unit0,stpX x) else some (unit0,stpX y)) = some (unit0,stpX (bif b then x else y)):=by cases b <;> rfl
def ySM (g : CX→CX) : Summary:=SM (α:=Unit) (fun _ _=>true) fun x _=>(unitV,g x)
def rejX (x : CX) : CX:=(x.1,{ x.2.1 with rej:=rejV x.2.1.rej },x.2.2)
theorem okReject : SumOk Tryz.prog 163 (ySM rejX):=SM_ok (E:={ gam:=[] }) GamOk.nil 20 fun x _ _=>reject163 x.1 x.2.1 x.2.2
end Go.Ab
namespace Go.Ab
open Go Go.Proofs
def restJ (o : Ops) (J : List (Nat × Nat)) (c : Int × Bool) (l : Mx) : X13 × Bool :=
  let r:=runJ o c.1 l J (mx0,c.2)
  (bif r.2 then x13z else x13of r.1,r.2)
def pointsJ (o : Ops) (rt : Bool→M6 × Int × Unit→M6 × Bool) (J : List (Nat × Nat)) (b : Bool) (g : Gs) : X13 × Bool :=
  restJ o J (o.sqrt (rt b (g.p,6,())).2 7696581394432) (rt b (g.p,6,())).1.at
theorem pointsT_J (o : Ops) (rt : Bool→M6 × Int × Unit→M6 × Bool) (J : List (Nat × Nat)) (e : TypeId) (b : Bool) (g : Gs) :
    pointsT e (points0 o rt J b g) = some (.val (Cod.enc (pointsJ o rt J b g).1),row e (pointsJ o rt J b g).2):=by
  unfold pointsJ restJ points0 pointsT
  dsimp only
  generalize runJ o _ _ J _ = r
  obtain ⟨X,f⟩:=r
  cases f <;> rfl
theorem ok107 : SumOk Tryz.prog 52 (S 57 fun b (p : Gs × Unit)=>pointsJ opsF (matRootN opsF) jobsP b p.1) :=
  S_ok (E:={ gam:=(61,S 57 (matRootN opsF)) :: gamN opsF }) (.cons ok64 gamN_ok) 20 fun b a =>
    (points107 opsF (matRootN opsF) b a.1).trans (pointsT_J opsF (matRootN opsF) jobsP 57 b a.1)
theorem ok105 : SumOk Tryz.prog 48 (S0 fun (p : V4 × Unit)=>start p.1):=S0_ok (E:={ gam:=[] }) GamOk.nil 20 fun a=>start105 a.1
theorem ok109 : SumOk Tryz.prog 50 (S 57 fun b (p : Gs × Unit)=>spread opsF b p.1):=S_ok gamN_ok 20 fun b a=>spread109 opsF b a.1
end Go.Ab
