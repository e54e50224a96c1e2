/- A part of the proof of 'CraftHolds': lemmas, no statement of their own; no condition. -/
import Derived.Test.YtoocjipllmkjcaaGreatGQtC
namespace Go.Ab
open Go Go.Proofs
def ix(n m:Nat):Nat:=3*(7*n+m)
def W3b(T:Nat→Int):List (Nat×Nat)→List Value
 | []=>[]
 | (n,m) :: r=>key2 n m :: .bool true :: val3 (T (ix n m)) (T (ix n m+1)) (T (ix n m+2)) :: W3b T r
def C4g:Nat→List (Nat×Nat)
 | 1=>[(0,0),(1,1)]
 | 2=>[(0,0),(1,1),(1,0)]
 | 3=>[(0,0),(1,1),(1,0),(2,0),(2,1),(2,2)]
 | 4=>[(0,0),(1,1),(1,0),(2,0),(2,1),(2,2),(3,0),(3,1),(3,2),(3,3)]
 | 5=>[(0,0),(1,1),(1,0),(2,0),(2,1),(2,2),(3,0),(3,1),(3,2),(3,3),(4,0),(4,1),(4,2),(4,3),(4,4)]
 | 6=>[(0,0),(1,1),(1,0),(2,0),(2,1),(2,2),(3,0),(3,1),(3,2),(3,3),(4,0),(4,1),(4,2),(4,3),(4,4),(5,0),(5,1),(5,2),(5,3),(5,4),(5,5)]
 | _=>[(0,0),(1,1),(1,0),(2,0),(2,1),(2,2),(3,0),(3,1),(3,2),(3,3),(4,0),(4,1),(4,2),(4,3),(4,4),(5,0),(5,1),(5,2),(5,3),(5,4),(5,5),(6,0),(6,1),(6,2),(6,3),(6,4),(6,5),(6,6)]
def put3(T:Nat→Int)(j:Nat)(p d q:Int):Nat→Int:=fun i=>bif Nat.beq i j then p else bif Nat.beq i (j+1) then d else bif Nat.beq i (j+2) then q else T i
def rtA(n m:Nat):Int:=((n*n-m*m:Nat):Int)*1099511627776
def low3(T:Nat→Int)(n m i:Nat):Int:=bif Nat.ble (m+2) n then T (ix (n-2) m+i) else 0
def tmIn(o:Ops)(c s:Int)(n m:Nat)(z:(Nat→Int)×Bool):(Nat→Int)×Bool :=
 let r1:=o.sqrt z.2 (rtA (n-1) m)
 let r2:=o.sqrt r1.2 (rtA n m)
 let a:=o.div r2.2 r1.1 r2.1
 let b1:=o.part a.2 1099511627776 ((2*n-1:Nat):Int) 1
 let r3:=o.sqrt b1.2 (rtA n m)
 let b:=o.div r3.2 b1.1 r3.1
 let p1:=o.mul b.2 c (z.1 (ix (n-1) m))
 let p2:=o.mul p1.2 b.1 p1.1
 let p3:=o.mul p2.2 a.1 (low3 z.1 n m 0)
 let p:=o.sub p3.2 p2.1 p3.1
 let d1:=o.mul p.2 c (z.1 (ix (n-1) m+1))
 let d2:=o.mul d1.2 s (z.1 (ix (n-1) m))
 let d3:=o.sub d2.2 d1.1 d2.1
 let d4:=o.mul d3.2 b.1 d3.1
 let d5:=o.mul d4.2 a.1 (low3 z.1 n m 1)
 let d:=o.sub d5.2 d4.1 d5.1
 let q1:=o.mul d.2 c (z.1 (ix (n-1) m+2))
 let q2:=o.mul q1.2 b.1 q1.1
 let q3:=o.mul q2.2 a.1 (low3 z.1 n m 2)
 let q:=o.sub q3.2 q2.1 q3.1
 (put3 z.1 (ix n m) p.1 d.1 q.1,q.2)
def R3n(o:Ops)(c s:Int)(n:Nat):Nat→Nat→(Nat→Int)×Bool→(Nat→Int)×Bool
 | _,0,z=>z
 | m,k+1,z=>R3n o c s n (m+1) k (tmIn o c s n m z)
def Q4a(o:Ops)(c s:Int)(n:Nat)(z:(Nat→Int)×Bool):(Nat→Int)×Bool :=
 let j1:=o.part z.2 1099511627776 ((2*n-1:Nat):Int) ((2*n:Nat):Int)
 let j:=o.sqrt j1.2 j1.1
 let p1:=o.mul j.2 s (z.1 (ix (n-1) (n-1)))
 let p:=o.mul p1.2 j.1 p1.1
 let d1:=o.mul p.2 s (z.1 (ix (n-1) (n-1)+1))
 let d2:=o.mul d1.2 c (z.1 (ix (n-1) (n-1)))
 let d3:=o.add d2.2 d1.1 d2.1
 let d:=o.mul d3.2 j.1 d3.1
 let q1:=o.mul d.2 s (z.1 (ix (n-1) (n-1)+2))
 let q:=o.mul q1.2 j.1 q1.1
 (put3 z.1 (ix n n) p.1 d.1 q.1,q.2)
def C0c(o:Ops)(c s:Int)(k:Nat)(z:(Nat→Int)×Bool):(Nat→Int)×Bool :=
 bif Nat.ble (k+1) 1 then R3n o c s (k+1) 0 (k+1) z else Q4a o c s (k+1) (R3n o c s (k+1) 0 (k+1) z)
def tmT(c s:Int):Nat→Int:=fun i=>bif Nat.beq i 0 then 1099511627776 else bif Nat.beq i 24 then s else bif Nat.beq i 25 then c else bif Nat.beq i 26 then 1099511627776 else 0
def D1a(n:Nat)(T:Nat→Int):Obj:=.chan 1 (List.toArray (W3b T (C4g n))) false 0 0 false
def tmI(c s:Int)(n:Nat)(T:Nat→Int)(f:Bool):St:=gSt 181 [(1,.val (.int .i64 c)),(2,.val (.int .i64 s)),(3,.ptr 4096 0),(7,.map (4096+1*2^180)),(8,.func 254 [] [.ptr 4096 0]),(9,.val (kI n))]
 [(0,.row 57 [.val (.bool f)]),(4096,.row 55 [.ptr 0 0]),((4096+1*2^180),.obj (D1a n T))] (4096+2*2^180)
def tmI0(c s:Int)(T:Nat→Int)(f:Bool):St:=gSt 181 [(1,.val (.int .i64 c)),(2,.val (.int .i64 s)),(3,.ptr 4096 0),(7,.map (4096+1*2^180)),(8,.func 254 [] [.ptr 4096 0])]
 [(0,.row 57 [.val (.bool f)]),(4096,.row 55 [.ptr 0 0]),((4096+1*2^180),.obj (D1a 1 T))] (4096+2*2^180)
def tmZ(T:Nat→Int)(f:Bool):St:=gSt 181 [(6,.map (4096+1*2^180))] [(0,.row 57 [.val (.bool f)]),(4096,.row 55 [.ptr 0 0]),((4096+1*2^180),.obj (D1a 7 T))] (4096+2*2^180)
section
variable (o:Ops) (c s:Int) (T:Nat→Int) (f:Bool)
theorem N5w:gRun Tryz.prog {gam:=gamN o} 181 tm0 (B0t 181 [.ptr 0 0,.val (.int .i64 c),.val (.int .i64 s)] (row 57 f)) [0,4096] [1,2,3]=some (.normal,tmS c s f (H0k false false c s) false false false false false false false false false):=by kernel_rfl
theorem N5x:gRun Tryz.prog {gam:=gamN o} 181 tm2 (tmS c s f (H0k true true c s) true true true true true true true true true) [0,4096,(4096+1*2^180)] [1,2,3,7,8]=some (.normal,tmI0 c s (tmT c s) f):=by kernel_rfl
theorem N5y:gRun Tryz.prog {gam:=gamN o} 181 tm3 (tmI0 c s T f) [0,4096,(4096+1*2^180)] [1,2,3,7,8,9]=some (.normal,tmI c s 1 T f):=by kernel_rfl
theorem N5z:gRun Tryz.prog {gam:=gamN o} 181 tmE (tmI c s 7 T f) [0,4096,(4096+1*2^180)] [6]=some (.ret,tmZ T f):=by kernel_rfl
theorem P5a:gCut Tryz.prog {gam:=gamN o} 181 tmL (tmI c s 7 T f) (4096+2*2^180) [0,4096,(4096+1*2^180)] [1,2,3,7,8,9]=some (.exit 0,tmI c s 7 T f):=by kernel_rfl
theorem Q4n:gCut Tryz.prog {gam:=gamN o} 181 tmL (tmI c s 1 T f) (4096+2*2^180) [0,4096,(4096+1*2^180)] [1,2,3,7,8,9]=some (.normal,tmI c s 2 (C0c o c s 0 (T,f)).1 (C0c o c s 0 (T,f)).2):=by kernel_rfl
theorem Q4p:gCut Tryz.prog {gam:=gamN o} 181 tmL (tmI c s 2 T f) (4096+2*2^180) [0,4096,(4096+1*2^180)] [1,2,3,7,8,9]=some (.normal,tmI c s 3 (C0c o c s 1 (T,f)).1 (C0c o c s 1 (T,f)).2):=by kernel_rfl
theorem Q4q:gCut Tryz.prog {gam:=gamN o} 181 tmL (tmI c s 3 T f) (4096+2*2^180) [0,4096,(4096+1*2^180)] [1,2,3,7,8,9]=some (.normal,tmI c s 4 (C0c o c s 2 (T,f)).1 (C0c o c s 2 (T,f)).2):=by kernel_rfl
theorem Q4r:gCut Tryz.prog {gam:=gamN o} 181 tmL (tmI c s 4 T f) (4096+2*2^180) [0,4096,(4096+1*2^180)] [1,2,3,7,8,9]=some (.normal,tmI c s 5 (C0c o c s 3 (T,f)).1 (C0c o c s 3 (T,f)).2):=by kernel_rfl
theorem Q4t:gCut Tryz.prog {gam:=gamN o} 181 tmL (tmI c s 5 T f) (4096+2*2^180) [0,4096,(4096+1*2^180)] [1,2,3,7,8,9]=some (.normal,tmI c s 6 (C0c o c s 4 (T,f)).1 (C0c o c s 4 (T,f)).2):=by kernel_rfl
theorem Q4u:gCut Tryz.prog {gam:=gamN o} 181 tmL (tmI c s 6 T f) (4096+2*2^180) [0,4096,(4096+1*2^180)] [1,2,3,7,8,9]=some (.normal,tmI c s 7 (C0c o c s 5 (T,f)).1 (C0c o c s 5 (T,f)).2):=by kernel_rfl
theorem Q4b:A0p (4096+2*2^180) (tmI c s 2 T f)=true:=by kernel_rfl
theorem Q4c:A0p (4096+2*2^180) (tmI c s 3 T f)=true:=by kernel_rfl
theorem Q4d:A0p (4096+2*2^180) (tmI c s 4 T f)=true:=by kernel_rfl
theorem Q4e:A0p (4096+2*2^180) (tmI c s 5 T f)=true:=by kernel_rfl
theorem Q4g:A0p (4096+2*2^180) (tmI c s 6 T f)=true:=by kernel_rfl
theorem D3h:A0p (4096+2*2^180) (tmI c s 7 T f)=true:=by kernel_rfl
end
end Go.Ab
