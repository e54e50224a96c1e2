/- A part of the proofs: lemmas, no statement of their own; no condition. -/
import Derived.Test.YtoocjipllmkjcaaGreatGFsB
import Derived.Test.YtoocjipllmkjcaaGreatGRtF
set_option linter.unusedSimpArgs false
namespace Go.Ab
open Go Go.Proofs
structure P0j where
 wd:Int×Unit→Int
 rt:Int×Unit→Bool
 pt:Bool→Int×Int×Int×Unit→Int×Bool
 vn:Bool→V3×Unit→Int×Bool
 vu:Bool→V3×Unit→V3×Bool
def G0d(F:P0j):Gam:=[(209,S0 F.wd),(87,S0 F.rt),(65,S 57 F.pt),(137,S 57 F.vn),(51,S 57 F.vu)]
noncomputable def rdR:Nat→Code
 | 0=>Tryz.f164.body.getD .skip
 | k+1=>seqR (rdR k)
noncomputable def rdL(k:Nat):Code:=seqL (rdR k)
theorem M4w:Tryz.f164.body=some (.seq (rdL 0) (.seq (rdL 1) (.seq (rdL 2) (.seq (rdL 3) (.seq (rdL 4) (.seq (rdL 5) (.seq (rdL 6) (.seq (rdL 7) (.seq (rdL 8) (.seq (rdL 9) (.seq (rdL 10) (rdR 11))))))))))) ):=by kernel_rfl
theorem rd_N:Tryz.f164.ntmps=165:=by kernel_rfl
theorem E2t:Tryz.prog.funcs[164]?=some Tryz.f164:=by kernel_rfl
def rN1:Nat:=4096+1*2^180
def rN2:Nat:=4096+2*2^180
def rN3:Nat:=4096+3*2^180
def rN4:Nat:=4096+4*2^180
def fRow(k:Int)(d:ByteArray):Con:=.row 74 [.val (.int .i64 k),.val (.string d)]
def gRow(k z x y w:Int):Con:=.row 100 [.val (.int .i64 k),.val (.int .i64 z),.val (.int .i64 x),.val (.int .i64 y),.val (.int .i64 w)]
def rdTm:List (Nat×AV):=[(1,.ptr 4096 0),(2,.ptr rN1 0),(3,.val (.bool false))]
def rdS(k:Int)(d:ByteArray)(tm:List (Nat×AV)):St:=gSt 165 (rdTm++tm) [(4096,fRow k d),(rN1,gRow 0 0 0 0 0)] rN2
def rdZ(r:Rdg)(b:Bool)(lo:Nat):St:=gSt 165 [(2,.ptr rN1 0),(3,.val (.bool b))] [(rN1,gRow r.kind r.tk r.v.x r.v.y r.v.z)] lo
def rdS5(k:Int)(d:ByteArray)(z:Int)(tm:List (Nat×AV)):St:=gSt 165 (rdTm++(5,.ptr rN2 0) :: tm) [(4096,fRow k d),(rN1,gRow 0 0 0 0 0),(rN2,gRow k z 0 0 0)] rN3
structure RdT where
 v:V3
 ok:Bool
 lit:Bool
 fl:Bool
def rdJ(k:Int)(d:ByteArray)(z:Int)(ds:ByteArray)(t:RdT)(tm:List (Nat×AV)):St:=gSt 165 (rdTm++[(5,.ptr rN2 0),(8,.val (.string ds)),(9,.ptr rN3 0),(10,.val (.bool t.ok)),(11,.val (.bool t.lit))]++tm) [(4096,fRow k d),(rN1,gRow 0 0 0 0 0),(rN2,gRow k z t.v.x t.v.y t.v.z),(rN3,.row 57 [.val (.bool t.fl)])] rN4
def setV(v:V3)(i:Nat)(x:Int):V3:=match i with
 | 0=>⟨x,v.y,v.z⟩
 | 1=>⟨v.x,x,v.z⟩
 | _=>⟨v.x,v.y,x⟩
def D1e(a b:Int):Int:=IntKind.u16.wrap ((BitVec.ofInt IntKind.u16.bits (IntKind.u16.wrap (IntKind.u16.wrap a*2^8)) ||| BitVec.ofInt IntKind.u16.bits (IntKind.u16.wrap b)).toNat:Int)
def byA(s:ByteArray)(i:Nat):Int:=((s.data.toList.getD i 0).toNat:Int)
def U5e(s:ByteArray):Int:=D1e (byA s 0) (byA s 1)
def wAt(ds:ByteArray)(j:Nat):Int:=U5e (ds.extract j ds.size)
def gyN(ds:ByteArray)(i:Nat):Int:=IntKind.i64.wrap (IntKind.i16.wrap (wAt ds (2*i)))
def suN(ds:ByteArray)(i:Nat):Int:=IntKind.i64.wrap (IntKind.i64.wrap (IntKind.i64.wrap (wAt ds (4*i))-IntKind.i64.wrap (wAt ds (4*i+2)))*2^24)
def suB(ds:ByteArray)(i:Nat):Bool:=decide ((if wAt ds (4*i+2)>wAt ds (4*i) then wAt ds (4*i+2) else wAt ds (4*i))≥2000)
def rdG(ds:ByteArray)(i:Nat)(t:RdT)(b:Bool):RdT:=⟨setV t.v i (IntKind.i64.wrap (gyN ds i*2^25)),b,t.lit,t.fl⟩
def rdM(F:P0j)(ds:ByteArray)(i:Nat)(t:RdT):RdT:=⟨setV t.v i (F.pt t.fl (1099511627776,gyN ds i,100,())).1,t.ok,t.lit,(F.pt t.fl (1099511627776,gyN ds i,100,())).2⟩
def rdU(ds:ByteArray)(i:Nat)(t:RdT)(b:Bool):RdT:=⟨setV t.v i (suN ds i),t.ok,b,t.fl⟩
noncomputable def rdO5:Array Oper:=regO (seqL (rdL 4))
noncomputable def rdB0:Code:=inB (inB (seqR (rdL 4)))
noncomputable def rdT1:Code:=seqL rdB0
noncomputable def rdT2:Code:=seqL (seqR rdB0)
noncomputable def rdB1:Code:=inB (seqL (seqR (seqR rdB0)))
noncomputable def rdO7:Array Oper:=regO (seqL rdB1)
noncomputable def rdC8:Code:=seqR rdB1
noncomputable def rdC9:Code:=seqR (seqR (seqR rdB0))
noncomputable def rdLB:Code:=inB (inB (seqR (rdL 9)))
theorem M4j:rdL 4=.seq (.region 5 rdO5 false) (.block 0 (.loop (.seq rdT1 (.seq rdT2 (.seq (.block 1 (.seq (.region 7 rdO7 false) rdC8)) rdC9))))):=by kernel_rfl
theorem M4k:rdL 9=.seq (seqL (rdL 9)) (.block 2 (.loop rdLB)):=by kernel_rfl
noncomputable abbrev L0g(F:P0j)(c:Code)(s:St)(ks ts:List Nat):Option (Ex×St):=gRun Tryz.prog {gam:=G0d F} 165 c s ks ts
section
variable (F:P0j) (k z n:Int) (d ds:ByteArray) (a:Option Addr) (c:Nat) (t:RdT)
theorem M4y:L0g F (rdL 0) (B0t 165 [.val (Cod.enc (Fr.mk k d))] []) [4096,rN1] [1,2,3]=some (.normal,rdS k d []):=by kernel_rfl
theorem M4z:L0g F (rdL 1) (rdS k d []) [4096,rN1] [1,2,3,4]=some (.normal,rdS k d [(4,.val (.int .i64 (F.wd (k,()))))]):=by kernel_rfl
theorem N4b:L0g F (rdL 2) (rdS k d [(4,.val (.int .i64 n))]) [4096,rN1] [1,2,3]=bif n==0 then some (.ret,rdS k d []) else bif ((d.size:Nat):Int) != IntKind.i64.wrap (6+IntKind.i64.wrap (2*n)) then some (.ret,rdS k d []) else some (.normal,rdS k d []):=by kernel_rfl
theorem K5z:L0g F (rdL 3) (rdS k d []) [4096,rN1,rN2] [1,2,3,5]=some (.normal,rdS5 k d 0 []):=by kernel_rfl
theorem L5a:L0g F (rdL 5) (rdS5 k d z []) [4096,rN1,rN2] [1,2,3,5,8]=bif decide (0≤(6:Int)∧6≤(d.size:Int)∧(d.size:Int)≤(d.size:Int)) then some (.normal,rdS5 k d z [(8,.val (.string (d.extract 6 d.size)))]) else none:=by kernel_rfl
theorem L5b:L0g F (rdL 6) (rdS5 k d z [(8,.val (.string ds))]) [4096,rN1,rN2,rN3] [1,2,3,5,8,9]=some (.normal,gSt 165 (rdTm++[(5,.ptr rN2 0),(8,.val (.string ds)),(9,.ptr rN3 0)]) [(4096,fRow k d),(rN1,gRow 0 0 0 0 0),(rN2,gRow k z 0 0 0),(rN3,.row 57 [.val (.bool false)])] rN4):=by kernel_rfl
theorem L5c:L0g F (rdL 7) (gSt 165 (rdTm++[(5,.ptr rN2 0),(8,.val (.string ds)),(9,.ptr rN3 0)]) [(4096,fRow k d),(rN1,gRow 0 0 0 0 0),(rN2,gRow k z 0 0 0),(rN3,.row 57 [.val (.bool false)])] rN4) [4096,rN1,rN2,rN3] [1,2,3,5,8,9,10]=some (.normal,gSt 165 (rdTm++[(5,.ptr rN2 0),(8,.val (.string ds)),(9,.ptr rN3 0),(10,.val (.bool (F.rt (z,()))))]) [(4096,fRow k d),(rN1,gRow 0 0 0 0 0),(rN2,gRow k z 0 0 0),(rN3,.row 57 [.val (.bool false)])] rN4):=by kernel_rfl
theorem L5d(b:Bool):L0g F (rdL 8) (gSt 165 (rdTm++[(5,.ptr rN2 0),(8,.val (.string ds)),(9,.ptr rN3 0),(10,.val (.bool b))]) [(4096,fRow k d),(rN1,gRow 0 0 0 0 0),(rN2,gRow k z 0 0 0),(rN3,.row 57 [.val (.bool false)])] rN4) [4096,rN1,rN2,rN3] [1,2,3,5,8,9,10,11]=some (.normal,rdJ k d z ds ⟨⟨0,0,0⟩,b,false,false⟩ []):=by kernel_rfl
theorem L5e:L0g F (seqL (rdL 9)) (rdJ k d z ds t []) [4096,rN1,rN2,rN3] [1,2,3,5,8,9,10,11,60]=some (.normal,rdJ k d z ds t [(60,.val (.int .i64 0))]):=by kernel_rfl
theorem L5k:L0g F rdLB (rdJ k d z ds t [(60,.val (.int .i64 3))]) [4096,rN1,rN2,rN3] [1,2,3,5,8,9,10,11]=some (.exit 2,rdJ k d z ds t []):=by kernel_rfl
theorem Q3b:L0g F (rdL 10) (rdJ 3 d z ds t []) [4096,rN1,rN2,rN3] [1,2,3,5,8,9,10,11]=bif t.ok then bif decide ((F.vn t.fl (t.v,())).1≥1099511627776) then some (.normal,rdJ 3 d z ds ⟨t.v,decide ((F.vn t.fl (t.v,())).1≤131941395333120),t.lit,(F.vn t.fl (t.v,())).2⟩ []) else some (.normal,rdJ 3 d z ds ⟨t.v,false,t.lit,(F.vn t.fl (t.v,())).2⟩ []) else some (.normal,rdJ 3 d z ds ⟨t.v,false,t.lit,(F.vn t.fl (t.v,())).2⟩ []):=by kernel_rfl
theorem Q3c:L0g F (rdL 10) (rdJ 2 d z ds t []) [4096,rN1,rN2,rN3] [1,2,3,5,8,9,10,11]=bif t.ok then bif t.lit then some (.normal,rdJ 2 d z ds ⟨(F.vu t.fl (t.v,())).1,!(F.vu t.fl (t.v,())).2,t.lit,(F.vu t.fl (t.v,())).2⟩ []) else some (.normal,rdJ 2 d z ds ⟨(F.vu t.fl (t.v,())).1,false,t.lit,(F.vu t.fl (t.v,())).2⟩ []) else some (.normal,rdJ 2 d z ds ⟨(F.vu t.fl (t.v,())).1,false,t.lit,(F.vu t.fl (t.v,())).2⟩ []):=by kernel_rfl
theorem Q3a:L0g F (rdL 10) (rdJ 1 d z ds t []) [4096,rN1,rN2,rN3] [1,2,3,5,8,9,10,11]=some (.normal,rdJ 1 d z ds t []):=by kernel_rfl
theorem N4a:L0g F (rdR 11) (rdJ k d z ds t []) [rN1] [2,3]=bif !t.ok then some (.ret,rdZ ⟨0,0,⟨0,0,0⟩⟩ false rN4) else some (.ret,rdZ ⟨k,z,t.v⟩ true rN4):=by kernel_rfl
end
def tkF(z v:Int):Int:=orV (IntKind.i64.wrap (z*2^8)) (IntKind.i64.wrap v)
def rdK(k:Int)(d:ByteArray)(i z:Int)(a:Option Addr)(c:Nat)(tm:List (Nat×AV)):St:=rdS5 k d z ([(38,.val (.slice a 6 c)),(39,.val (.int .i64 6)),(40,.val (.int .i64 i))]++tm)
section
variable (F:P0j) (k z n i v:Int) (d ds:ByteArray) (a:Option Addr) (ad:Addr) (c:Nat) (t:RdT) (b:Bool) (p:Value)
theorem K5j:B0a rdO5 3=some (.convert 9 227 (.tmp 37),some 38,true):=by kernel_rfl
theorem K5k:List.range rdO5.size=(List.range (rdO5.toList.take 3).length).map (0+·)++(3 :: ((List.range (rdO5.toList.drop 4).length).map (4+·)++[])):=by kernel_rfl
theorem K5m:B0a rdO7 0=some (.indexAddr 227 (.tmp 38) (.tmp 40),some 42,true):=by kernel_rfl
theorem K5n:B0a rdO7 1=some (.load 5 (.tmp 42),some 43,true):=by kernel_rfl
theorem K5p:B0a rdO7 2=some (.assign (.tmp 43),some 7,true):=by kernel_rfl
theorem K5q:List.range rdO7.size=[0,1,2]:=by kernel_rfl
theorem N4c:B0j Tryz.prog (B0v Tryz.prog {gam:=G0d F} 4 (Bool×St)) (B0p (G0d F)) 165 rdO5 (rdO5.toList.take 3) (rdS5 k d 0 []) [] (C0p [4096,rN1,rN2] (E0d 165 [1,2,3,5,37]))=bif decide (0≤(0:Int)∧0≤(6:Int)∧6≤(d.size:Int)) then some (true,rdS5 k d 0 [(37,.val (.string (d.extract 0 6)))]) else none:=by kernel_rfl
theorem N4d(s:ByteArray):B0j Tryz.prog (B0v Tryz.prog {gam:=G0d F} 4 (Bool×St)) (B0p (G0d F)) 165 rdO5 (rdO5.toList.drop 4) {rdS5 k d 0 [(37,.val (.string s))]with tmps:=(rdS5 k d 0 [(37,.val (.string s))]).tmps.set 38 (.val (.slice (some ad) 6 c))} [] (C0p [4096,rN1,rN2] (E0d 165 [1,2,3,5,38,39,40]))=some (true,rdK k d 0 0 (some ad) c []):=by kernel_rfl
theorem L5j:L0g F rdT1 (rdK k d i z a c []) [4096,rN1,rN2] [1,2,3,5,38,39,40,41]=some (.normal,rdK k d i z a c [(41,.val (.bool (decide (i<6))))]):=by kernel_rfl
theorem L5m:L0g F rdT2 (rdK k d i z a c [(41,.val (.bool true))]) [4096,rN1,rN2] [1,2,3,5,38,39,40]=some (.normal,rdK k d i z a c []):=by kernel_rfl
theorem L5n:L0g F rdT2 (rdK k d i z a c [(41,.val (.bool false))]) [4096,rN1,rN2] [1,2,3,5]=some (.exit 0,rdS5 k d z []):=by kernel_rfl
theorem L5g:L0g F rdC8 (rdK k d i z a c [(7,.val (.int .u8 v))]) [4096,rN1,rN2] [1,2,3,5,38,39,40]=some (.normal,rdK k d i (tkF z v) a c []):=by kernel_rfl
theorem L5h:L0g F rdC9 (rdK k d i z a c []) [4096,rN1,rN2] [1,2,3,5,38,39,40]=some (.normal,rdK k d (IntKind.i64.wrap (i+1)) z a c []):=by kernel_rfl
theorem L5t:G0k [4096,rN1,rN2] (E0d 165 [1,2,3,5,7,38,39,40]) {rdK k d i z a c []with tmps:=(((rdK k d i z a c []).tmps.set 42 (.val p)).set 43 (.val (.int .u8 v))).set 7 (.val (.int .u8 v))}=rdK k d i z a c [(7,.val (.int .u8 v))]:=by kernel_rfl
theorem M4x:(rdK k d i z a c []).tmps.length=165:=by kernel_rfl
theorem P3z:(rdS5 k d z [(37,.val (.string ds))]).tmps.length=165:=by kernel_rfl
end
noncomputable def M4n(k:Int)(d:ByteArray):D0b Tryz.prog 165 Int 6 where
 id:=0
 id2:=1
 idR:=7
 T1:=rdT1
 T2:=rdT2
 rO:=rdO7
 BD:=rdC8
 INC:=rdC9
 ty:=227
 te:=5
 tS:=38
 tI:=40
 d1:=42
 d2:=43
 d3:=7
 I i z a c:=rdK k d i z a c []
 I1 i z a c t:=rdK k d i z a c [(41,.val (.bool t))]
 J i z a c v:=rdK k d i z a c [(7,.val (.int .u8 v))]
 K i z a c:=rdK k d i z a c []
 E z:=rdS5 k d z []
 F:=tkF
theorem P2w{F:P0j}(hG:GamOk Tryz.prog (G0d F))(k:Int)(d:ByteArray):(M4n k d).Ok where
 r0:=K5m
 r1:=K5n
 r2:=K5p
 rn:=K5q
 u:=v38
 ue:=zv5
 s1:=j5
 b1:=by show 42<165;omega
 b2:=by show 43<165;omega
 b3:=by show 7<165;omega
 n1:=by show 42≠43;omega
 len i z a c:=M4x k z i d a c
 hS i z a c:=by show (rdK k d i z a c []).tmps[38]?=_;rfl
 hI i z a c:=by show (rdK k d i z a c []).tmps[40]?=_;rfl
 hJ i z a c p v:=⟨by
  show Wk (rdK k d i z a c [(7,.val (.int .u8 v))]).u _
  rw[← L5t k z i v d a c p]
  exact C0e _ _ _,Nat.le_refl _,Nat.le_refl _⟩
 hT i z a c:=A0a (E:={gam:=G0d F}) hG (L5j F k z i d a c)
 hY i z a c:=A0a (E:={gam:=G0d F}) hG (L5m F k z i d a c)
 hX i z a c:=A0a (E:={gam:=G0d F}) hG (L5n F k z i d a c)
 hB i z a c v:=A0a (E:={gam:=G0d F}) hG (L5g F k z i v d a c)
 hC i z a c hi:=by
  have h:=A0a (E:={gam:=G0d F}) hG (L5h F k z i d a c)
  have e:IntKind.i64.wrap ((i:Int)+1)=((i+1:Nat):Int):=by rw[C0k];omega
  rw[e]at h
  exact h
def G0y(d:ByteArray):Int:=(d.extract 0 6).data.toList.foldl (fun z b=>tkF z b.toNat) 0
theorem K5y{F:P0j}(hG:GamOk Tryz.prog (G0d F))(k:Int)(d:ByteArray)(hd:6≤d.size):A0b Tryz.prog 165 (rdL 4) (rdS5 k d 0 []) .normal (rdS5 k d (G0y d) []):=by
 rw[M4j]
 intro w0 own σ0 lo0 hi0 act w hst Q hQ
 have hsz:(d.extract 0 6).size=6:=by rw[ByteArray.size_extract];omega
 have hq:=N4c F k d
 rw[decide_eq_true (by omega),cond_true]at hq
 refine wp_seq (wp_region ?_)
 rw[K5k]
 refine D0z (B0b (E:={gam:=G0d F}) hG 4 _) [4096,rN1,rN2] _ hq (fun _ _ hj=>L0b hj) hst _ fun a1 w1 h1=>?_
 refine M1x K5j (by omega) (P3z ..) h1 (str:=d.extract 0 6) rfl v9 v38 zv5 _ fun a2 w2 own1 σ1 r c hr ho hcell _ h2 back=>?_
 rw[hsz]at h2 hcell
 refine D0z (B0b (E:={gam:=G0d F}) hG 4 _) [4096,rN1,rN2] _ (N4d F k d ⟨r,0,none⟩ c (d.extract 0 6)) (fun _ _ hj=>D0k hj) h2 [] fun a3 w3 h3=>?_
 refine D0b.run (P2w hG k d) (l:=(d.extract 0 6).data.toList) hsz hr ho hcell 0 h3 fun a4 w4 h4=>?_
 exact hQ a4 w4 (back _ _ _ h4)
structure R0d where
 lo:Int×Unit→Int
 rt:Orb×Unit→Bool
def B0m(F:R0d):Gam:=[(242,S0 F.lo),(212,S0 F.rt)]
noncomputable def odR:Nat→Code
 | 0=>Tryz.f211.body.getD .skip
 | k+1=>seqR (odR k)
noncomputable def odL(k:Nat):Code:=seqL (odR k)
theorem H5j:Tryz.f211.body=some (.seq (odL 0) (.seq (odL 1) (.seq (odL 2) (.seq (odL 3) (.seq (odL 4) (.seq (odL 5) (odR 6))))))):=by kernel_rfl
theorem od_N:Tryz.f211.ntmps=90:=by kernel_rfl
theorem G3n:Tryz.prog.funcs[211]?=some Tryz.f211:=by kernel_rfl
def oN1:Nat:=4096+1*2^180
def oN2:Nat:=4096+2*2^180
def oN3:Nat:=4096+3*2^180
def oN4:Nat:=4096+4*2^180
def oRow(o:Odr):Con:=.row 86 ((CodL.encl o).map AV.val)
def orb0:Orb:=⟨0,0,0,0,0,0,0⟩
def odr0:Odr:=⟨0,0,orb0⟩
def odT0:List (Nat×AV):=[(1,.ptr 4096 0),(2,.ptr oN1 0)]
def odT:List (Nat×AV):=[(1,.ptr 4096 0),(2,.ptr oN1 0),(3,.val (.int .i64 0)),(4,.ptr oN2 0),(5,.ptr oN3 0)]
def odS0(k:Int)(d:ByteArray):St:=gSt 90 (odT0++[(3,.val (.int .i64 0))]) [(4096,fRow k d),(oN1,oRow odr0)] oN2
def odS1(k:Int)(d:ByteArray)(nn:Odr):St:=gSt 90 (odT0++[(3,.val (.int .i64 0)),(4,.ptr oN2 0)]) [(4096,fRow k d),(oN1,oRow odr0),(oN2,oRow nn)] oN3
def odS(k:Int)(d:ByteArray)(nn o:Odr)(tm:List (Nat×AV)):St:=gSt 90 (odT++tm) [(4096,fRow k d),(oN1,oRow odr0),(oN2,oRow nn),(oN3,oRow o)] oN4
def odZ(o:Odr)(e:Int)(lo:Nat):St:=gSt 90 [(2,.ptr oN1 0),(3,.val (.int .i64 e))] [(oN1,oRow o)] lo
noncomputable abbrev G0n(F:R0d)(c:Code)(s:St)(ks ts:List Nat):Option (Ex×St):=gRun Tryz.prog {gam:=B0m F} 90 c s ks ts
section
variable (F:R0d) (k n:Int) (d:ByteArray) (nn o:Odr)
theorem H5k:G0n F (odL 0) (B0t 90 [.val (Cod.enc (Fr.mk k d))] []) [4096,oN1] [1,2,3]=some (.normal,odS0 k d):=by kernel_rfl
theorem H5m:G0n F (odL 1) (odS0 k d) [4096,oN1] [1,2,3]=bif k != 16 then some (.ret,gSt 90 (odT0++[(3,.val (.int .i64 1))]) [(4096,fRow k d),(oN1,oRow odr0)] oN2) else bif decide ((d.size:Int)<2) then some (.ret,gSt 90 (odT0++[(3,.val (.int .i64 1))]) [(4096,fRow k d),(oN1,oRow odr0)] oN2) else some (.normal,odS0 k d):=by kernel_rfl
theorem H5n:G0n F (odL 2) (odS0 k d) [4096,oN1,oN2] [1,2,3,4]=bif decide (0≤(0:Int)∧0<(d.size:Int)) then some (.normal,odS1 k d ⟨IntKind.i64.wrap (byA d 0),0,orb0⟩) else none:=by kernel_rfl
theorem H5p:G0n F (odL 3) (odS1 k d nn) [4096,oN1,oN2,oN3] [1,2,3,4,5]=bif decide (0≤(1:Int)∧1<(d.size:Int)) then some (.normal,odS k d nn ⟨nn.seq,IntKind.i64.wrap (byA d 1),orb0⟩ []) else none:=by kernel_rfl
theorem H5q:G0n F (odL 4) (odS k d nn o []) [4096,oN1,oN2,oN3] [1,2,3,4,5]=bif F.lo (o.code,())==0 then some (.ret,gSt 90 (odT0++[(3,.val (.int .i64 2)),(4,.ptr oN2 0),(5,.ptr oN3 0)]) [(4096,fRow k d),(oN1,oRow nn),(oN2,oRow nn),(oN3,oRow o)] oN4) else
  bif F.lo (o.code,()) != (d.size:Int) then some (.ret,gSt 90 (odT0++[(3,.val (.int .i64 1)),(4,.ptr oN2 0),(5,.ptr oN3 0)]) [(4096,fRow k d),(oN1,oRow nn),(oN2,oRow nn),(oN3,oRow o)] oN4) else some (.normal,odS k d nn o []):=by kernel_rfl
theorem H5r:G0n F (odR 6) (odS k d nn o []) [oN1] [2,3]=some (.ret,odZ o 0 oN4):=by kernel_rfl
end
def oN5:Nat:=4096+5*2^180
noncomputable def odC5:Code:=seqR (odL 5)
noncomputable def odCT:Code:=ifT odC5
noncomputable def E4h:Code:=seqL (seqL odCT)
noncomputable def M3h:Code:=seqR odCT
noncomputable def odOB:Code:=inB (inB (seqR (seqL odCT)))
noncomputable def X2b:Code:=seqL odOB
noncomputable def odXc:Code:=seqL (seqR odOB)
noncomputable def odB2:Code:=inB (seqL (seqR (seqR odOB)))
noncomputable def K1k:Code:=seqL odB2
noncomputable def E0z:Array Oper:=regO (seqL (seqR odB2))
noncomputable def odIB:Code:=inB (inB (seqR (seqR odB2)))
noncomputable def odT1:Code:=seqL odIB
noncomputable def odT2:Code:=seqL (seqR odIB)
noncomputable def odB4:Code:=inB (seqL (seqR (seqR odIB)))
noncomputable def A2x:Array Oper:=regO (seqL odB4)
noncomputable def M3e:Code:=seqR odB4
noncomputable def X2c:Code:=seqR (seqR (seqR odIB))
noncomputable def M3g:Code:=seqR (seqR (seqR odOB))
theorem C3k:odL 5=.seq (seqL (odL 5)) (.cond (.tmp 49) (.seq (.seq E4h (.block 1 (.loop odOB))) M3h) .skip):=by kernel_rfl
theorem M2w:odOB=.seq X2b (.seq odXc (.seq (.block 2 (.seq K1k (.seq (.region 14 E0z false) (.block 3 (.loop (.seq odT1 (.seq odT2 (.seq (.block 4 (.seq (.region 16 A2x false) M3e)) X2c)))))))) M3g)):=by kernel_rfl
def setO(o:Orb)(i:Nat)(z:Int):Orb:=match i with
 | 0=>{o with a:=z}
 | 1=>{o with e:=z}
 | 2=>{o with i:=z}
 | 3=>{o with node:=z}
 | 4=>{o with peri:=z}
 | 5=>{o with m:=z}
 | _=>{o with tk:=z}
def getO(o:Orb)(i:Nat):Int:=match i with
 | 0=>o.a
 | 1=>o.e
 | 2=>o.i
 | 3=>o.node
 | 4=>o.peri
 | 5=>o.m
 | _=>o.tk
def odPs:Con:=.row 275 [.ptr oN3 2,.ptr oN3 3,.ptr oN3 4,.ptr oN3 5,.ptr oN3 6,.ptr oN3 7,.ptr oN3 8]
def odP(k:Int)(d:ByteArray)(nn:Odr)(s c:Int)(ob:Orb)(i:Nat)(tm:List (Nat×AV)):St:=gSt 90 (odT++[(51,.slice oN4 0 7 7),(52,.val (.int .i64 7)),(53,.val (.int .i64 i))]++tm) [(4096,fRow k d),(oN1,oRow odr0),(oN2,oRow nn),(oN3,oRow ⟨s,c,ob⟩),(oN4,odPs)] oN5
def odQ(k:Int)(d:ByteArray)(nn:Odr)(s c:Int)(ob:Orb)(i:Nat)(j z:Int)(a:Option Addr)(cp:Nat)(tm:List (Nat×AV)):St:=odP k d nn s c (setO ob i z) i ([(8,.ptr oN3 (2+i)),(67,.val (.slice a 8 cp)),(68,.val (.int .i64 8)),(69,.val (.int .i64 j))]++tm)
abbrev OdK:List Nat:=[4096,oN1,oN2,oN3,oN4]
section
variable (F:R0d) (k:Int) (d str:ByteArray) (nn o:Odr) (s c:Int) (ob:Orb) (j z v:Int) (a:Option Addr) (ad:Addr) (cp:Nat) (t:Bool) (p:Value)
theorem D4z:B0a E0z 9=some (.convert 9 227 (.tmp 66),some 67,true):=by kernel_rfl
theorem E4a:List.range E0z.size=(List.range (E0z.toList.take 9).length).map (0+·)++(9 :: ((List.range (E0z.toList.drop 10).length).map (10+·)++[])):=by kernel_rfl
theorem E4b:B0a A2x 0=some (.indexAddr 227 (.tmp 67) (.tmp 69),some 71,true):=by kernel_rfl
theorem E4c:B0a A2x 1=some (.load 5 (.tmp 71),some 72,true):=by kernel_rfl
theorem E4d:B0a A2x 2=some (.assign (.tmp 72),some 10,true):=by kernel_rfl
theorem E4e:List.range A2x.size=[0,1,2]:=by kernel_rfl
theorem J4b:G0n F (seqL (odL 5)) (odS k d nn o []) [4096,oN1,oN2,oN3] [1,2,3,4,5,49]=some (.normal,odS k d nn o [(49,.val (.bool (o.code==3)))]):=by kernel_rfl
theorem J4c:G0n F E4h (odS k d nn ⟨s,c,ob⟩ [(49,.val (.bool true))]) OdK [1,2,3,4,5,51,52,53]=some (.normal,odP k d nn s c ob 0 []):=by kernel_rfl
noncomputable def L0x(F:R0d)(k:Int)(d:ByteArray)(nn:Odr)(s:Int)(c:Int)(ob:Orb)(i:Nat):Prop:=G0n F X2b (odP k d nn s c ob i []) OdK [1,2,3,4,5,51,52,53,54]=some (.normal,odP k d nn s c ob i [(54,.val (.bool true))])
theorem J4x:L0x F k d nn s c ob 0:=by delta L0x;kernel_rfl
noncomputable def H0d(F:R0d)(k:Int)(d:ByteArray)(nn:Odr)(s:Int)(c:Int)(ob:Orb)(i:Nat):Prop:=G0n F odXc (odP k d nn s c ob i [(54,.val (.bool true))]) OdK [1,2,3,4,5,51,52,53]=some (.normal,odP k d nn s c ob i [])
theorem M3k:H0d F k d nn s c ob 0:=by delta H0d;kernel_rfl
theorem H4j:G0n F K1k (odP k d nn s c ob 0 []) OdK [1,2,3,4,5,7,8,51,52,53]=some (.normal,odP k d nn s c ob 0 [(7,.val (.int .i64 0)),(8,.ptr oN3 2)]):=by kernel_rfl
theorem H4u:B0j Tryz.prog (B0v Tryz.prog {gam:=B0m F} 4 (Bool×St)) (B0p (B0m F)) 90 E0z (E0z.toList.take 9) (odP k d nn s c ob 0 [(7,.val (.int .i64 0)),(8,.ptr oN3 2)]) [] (C0p OdK (E0d 90 [1,2,3,4,5,8,51,52,53,66]))=bif decide (0≤(2:Int)∧(2:Int)≤10∧10≤(d.size:Int)) then some (true,odP k d nn s c ob 0 [(8,.ptr oN3 2),(66,.val (.string (d.extract 2 10)))]) else none:=by kernel_rfl
theorem J4d:B0j Tryz.prog (B0v Tryz.prog {gam:=B0m F} 4 (Bool×St)) (B0p (B0m F)) 90 E0z (E0z.toList.drop 10) {odP k d nn s c ob 0 [(8,.ptr oN3 2),(66,.val (.string str))]with tmps:=(odP k d nn s c ob 0 [(8,.ptr oN3 2),(66,.val (.string str))]).tmps.set 67 (.val (.slice (some ad) 8 cp))} [] (C0p OdK (E0d 90 [1,2,3,4,5,8,51,52,53,67,68,69]))=some (true,odQ k d nn s c ob 0 0 (getO ob 0) (some ad) cp []):=by kernel_rfl
noncomputable def L0t(F:R0d)(k:Int)(d:ByteArray)(nn:Odr)(s:Int)(c:Int)(ob:Orb)(j:Int)(z:Int)(a:Option Addr)(cp:Nat)(i:Nat):Prop:=G0n F odT1 (odQ k d nn s c ob i j z a cp []) OdK [1,2,3,4,5,8,51,52,53,67,68,69,70]=some (.normal,odQ k d nn s c ob i j z a cp [(70,.val (.bool (decide (j<8))))])
theorem G4j:L0t F k d nn s c ob j z a cp 0:=by delta L0t;kernel_rfl
noncomputable def L0u(F:R0d)(k:Int)(d:ByteArray)(nn:Odr)(s:Int)(c:Int)(ob:Orb)(j:Int)(z:Int)(a:Option Addr)(cp:Nat)(i:Nat):Prop:=G0n F odT2 (odQ k d nn s c ob i j z a cp [(70,.val (.bool true))]) OdK [1,2,3,4,5,8,51,52,53,67,68,69]=some (.normal,odQ k d nn s c ob i j z a cp [])
theorem G4t:L0u F k d nn s c ob j z a cp 0:=by delta L0u;kernel_rfl
noncomputable def L0v(F:R0d)(k:Int)(d:ByteArray)(nn:Odr)(s:Int)(c:Int)(ob:Orb)(j:Int)(z:Int)(a:Option Addr)(cp:Nat)(i:Nat):Prop:=G0n F odT2 (odQ k d nn s c ob i j z a cp [(70,.val (.bool false))]) OdK [1,2,3,4,5,51,52,53]=some (.exit 3,odP k d nn s c (setO ob i z) i [])
theorem H4a:L0v F k d nn s c ob j z a cp 0:=by delta L0v;kernel_rfl
noncomputable def L0p(F:R0d)(k:Int)(d:ByteArray)(nn:Odr)(s:Int)(c:Int)(ob:Orb)(j:Int)(z:Int)(v:Int)(a:Option Addr)(cp:Nat)(i:Nat):Prop:=G0n F M3e (odQ k d nn s c ob i j z a cp [(10,.val (.int .u8 v))]) OdK [1,2,3,4,5,8,51,52,53,67,68,69]=some (.normal,odQ k d nn s c ob i j (tkF z v) a cp [])
theorem E4j:L0p F k d nn s c ob j z v a cp 0:=by delta L0p;kernel_rfl
noncomputable def L0q(F:R0d)(k:Int)(d:ByteArray)(nn:Odr)(s:Int)(c:Int)(ob:Orb)(j:Int)(z:Int)(a:Option Addr)(cp:Nat)(i:Nat):Prop:=G0n F X2c (odQ k d nn s c ob i j z a cp []) OdK [1,2,3,4,5,8,51,52,53,67,68,69]=some (.normal,odQ k d nn s c ob i (IntKind.i64.wrap (j+1)) z a cp [])
theorem E4t:L0q F k d nn s c ob j z a cp 0:=by delta L0q;kernel_rfl
noncomputable def L0r(k:Int)(d:ByteArray)(nn:Odr)(s:Int)(c:Int)(ob:Orb)(j:Int)(z:Int)(v:Int)(a:Option Addr)(cp:Nat)(p:Value)(i:Nat):Prop:=G0k OdK (E0d 90 [1,2,3,4,5,8,10,51,52,53,67,68,69]) {odQ k d nn s c ob i j z a cp []with tmps:=(((odQ k d nn s c ob i j z a cp []).tmps.set 71 (.val p)).set 72 (.val (.int .u8 v))).set 10 (.val (.int .u8 v))}=odQ k d nn s c ob i j z a cp [(10,.val (.int .u8 v))]
theorem G4a:L0r k d nn s c ob j z v a cp p 0:=by delta L0r;kernel_rfl
noncomputable def L0w(F:R0d)(k:Int)(d:ByteArray)(nn:Odr)(s:Int)(c:Int)(ob:Orb)(i:Nat):Prop:=G0n F M3g (odP k d nn s c ob i []) OdK [1,2,3,4,5,51,52,53]=some (.normal,odP k d nn s c ob (i+1:Nat) [])
theorem J4n:L0w F k d nn s c ob 0:=by delta L0w;kernel_rfl
theorem J4y:L0x F k d nn s c ob 1:=by delta L0x;kernel_rfl
theorem M3m:H0d F k d nn s c ob 1:=by delta H0d;kernel_rfl
theorem H4k:G0n F K1k (odP k d nn s c ob 1 []) OdK [1,2,3,4,5,7,8,51,52,53]=some (.normal,odP k d nn s c ob 1 [(7,.val (.int .i64 1)),(8,.ptr oN3 3)]):=by kernel_rfl
theorem H4v:B0j Tryz.prog (B0v Tryz.prog {gam:=B0m F} 4 (Bool×St)) (B0p (B0m F)) 90 E0z (E0z.toList.take 9) (odP k d nn s c ob 1 [(7,.val (.int .i64 1)),(8,.ptr oN3 3)]) [] (C0p OdK (E0d 90 [1,2,3,4,5,8,51,52,53,66]))=bif decide (0≤(10:Int)∧(10:Int)≤18∧18≤(d.size:Int)) then some (true,odP k d nn s c ob 1 [(8,.ptr oN3 3),(66,.val (.string (d.extract 10 18)))]) else none:=by kernel_rfl
theorem J4e:B0j Tryz.prog (B0v Tryz.prog {gam:=B0m F} 4 (Bool×St)) (B0p (B0m F)) 90 E0z (E0z.toList.drop 10) {odP k d nn s c ob 1 [(8,.ptr oN3 3),(66,.val (.string str))]with tmps:=(odP k d nn s c ob 1 [(8,.ptr oN3 3),(66,.val (.string str))]).tmps.set 67 (.val (.slice (some ad) 8 cp))} [] (C0p OdK (E0d 90 [1,2,3,4,5,8,51,52,53,67,68,69]))=some (true,odQ k d nn s c ob 1 0 (getO ob 1) (some ad) cp []):=by kernel_rfl
theorem G4k:L0t F k d nn s c ob j z a cp 1:=by delta L0t;kernel_rfl
theorem G4u:L0u F k d nn s c ob j z a cp 1:=by delta L0u;kernel_rfl
theorem H4b:L0v F k d nn s c ob j z a cp 1:=by delta L0v;kernel_rfl
theorem E4k:L0p F k d nn s c ob j z v a cp 1:=by delta L0p;kernel_rfl
theorem E4u:L0q F k d nn s c ob j z a cp 1:=by delta L0q;kernel_rfl
theorem G4b:L0r k d nn s c ob j z v a cp p 1:=by delta L0r;kernel_rfl
theorem J4p:L0w F k d nn s c ob 1:=by delta L0w;kernel_rfl
theorem J4z:L0x F k d nn s c ob 2:=by delta L0x;kernel_rfl
theorem M3n:H0d F k d nn s c ob 2:=by delta H0d;kernel_rfl
theorem H4m:G0n F K1k (odP k d nn s c ob 2 []) OdK [1,2,3,4,5,7,8,51,52,53]=some (.normal,odP k d nn s c ob 2 [(7,.val (.int .i64 2)),(8,.ptr oN3 4)]):=by kernel_rfl
theorem H4w:B0j Tryz.prog (B0v Tryz.prog {gam:=B0m F} 4 (Bool×St)) (B0p (B0m F)) 90 E0z (E0z.toList.take 9) (odP k d nn s c ob 2 [(7,.val (.int .i64 2)),(8,.ptr oN3 4)]) [] (C0p OdK (E0d 90 [1,2,3,4,5,8,51,52,53,66]))=bif decide (0≤(18:Int)∧(18:Int)≤26∧26≤(d.size:Int)) then some (true,odP k d nn s c ob 2 [(8,.ptr oN3 4),(66,.val (.string (d.extract 18 26)))]) else none:=by kernel_rfl
theorem J4g:B0j Tryz.prog (B0v Tryz.prog {gam:=B0m F} 4 (Bool×St)) (B0p (B0m F)) 90 E0z (E0z.toList.drop 10) {odP k d nn s c ob 2 [(8,.ptr oN3 4),(66,.val (.string str))]with tmps:=(odP k d nn s c ob 2 [(8,.ptr oN3 4),(66,.val (.string str))]).tmps.set 67 (.val (.slice (some ad) 8 cp))} [] (C0p OdK (E0d 90 [1,2,3,4,5,8,51,52,53,67,68,69]))=some (true,odQ k d nn s c ob 2 0 (getO ob 2) (some ad) cp []):=by kernel_rfl
theorem G4m:L0t F k d nn s c ob j z a cp 2:=by delta L0t;kernel_rfl
theorem G4v:L0u F k d nn s c ob j z a cp 2:=by delta L0u;kernel_rfl
theorem H4c:L0v F k d nn s c ob j z a cp 2:=by delta L0v;kernel_rfl
theorem E4m:L0p F k d nn s c ob j z v a cp 2:=by delta L0p;kernel_rfl
theorem E4v:L0q F k d nn s c ob j z a cp 2:=by delta L0q;kernel_rfl
theorem G4c:L0r k d nn s c ob j z v a cp p 2:=by delta L0r;kernel_rfl
theorem J4q:L0w F k d nn s c ob 2:=by delta L0w;kernel_rfl
theorem K4a:L0x F k d nn s c ob 3:=by delta L0x;kernel_rfl
theorem M3p:H0d F k d nn s c ob 3:=by delta H0d;kernel_rfl
theorem H4n:G0n F K1k (odP k d nn s c ob 3 []) OdK [1,2,3,4,5,7,8,51,52,53]=some (.normal,odP k d nn s c ob 3 [(7,.val (.int .i64 3)),(8,.ptr oN3 5)]):=by kernel_rfl
theorem H4x:B0j Tryz.prog (B0v Tryz.prog {gam:=B0m F} 4 (Bool×St)) (B0p (B0m F)) 90 E0z (E0z.toList.take 9) (odP k d nn s c ob 3 [(7,.val (.int .i64 3)),(8,.ptr oN3 5)]) [] (C0p OdK (E0d 90 [1,2,3,4,5,8,51,52,53,66]))=bif decide (0≤(26:Int)∧(26:Int)≤34∧34≤(d.size:Int)) then some (true,odP k d nn s c ob 3 [(8,.ptr oN3 5),(66,.val (.string (d.extract 26 34)))]) else none:=by kernel_rfl
theorem J4h:B0j Tryz.prog (B0v Tryz.prog {gam:=B0m F} 4 (Bool×St)) (B0p (B0m F)) 90 E0z (E0z.toList.drop 10) {odP k d nn s c ob 3 [(8,.ptr oN3 5),(66,.val (.string str))]with tmps:=(odP k d nn s c ob 3 [(8,.ptr oN3 5),(66,.val (.string str))]).tmps.set 67 (.val (.slice (some ad) 8 cp))} [] (C0p OdK (E0d 90 [1,2,3,4,5,8,51,52,53,67,68,69]))=some (true,odQ k d nn s c ob 3 0 (getO ob 3) (some ad) cp []):=by kernel_rfl
theorem G4n:L0t F k d nn s c ob j z a cp 3:=by delta L0t;kernel_rfl
theorem G4w:L0u F k d nn s c ob j z a cp 3:=by delta L0u;kernel_rfl
theorem H4d:L0v F k d nn s c ob j z a cp 3:=by delta L0v;kernel_rfl
theorem E4n:L0p F k d nn s c ob j z v a cp 3:=by delta L0p;kernel_rfl
theorem E4w:L0q F k d nn s c ob j z a cp 3:=by delta L0q;kernel_rfl
theorem G4d:L0r k d nn s c ob j z v a cp p 3:=by delta L0r;kernel_rfl
theorem J4r:L0w F k d nn s c ob 3:=by delta L0w;kernel_rfl
theorem K4b:L0x F k d nn s c ob 4:=by delta L0x;kernel_rfl
theorem M3q:H0d F k d nn s c ob 4:=by delta H0d;kernel_rfl
theorem H4p:G0n F K1k (odP k d nn s c ob 4 []) OdK [1,2,3,4,5,7,8,51,52,53]=some (.normal,odP k d nn s c ob 4 [(7,.val (.int .i64 4)),(8,.ptr oN3 6)]):=by kernel_rfl
theorem H4y:B0j Tryz.prog (B0v Tryz.prog {gam:=B0m F} 4 (Bool×St)) (B0p (B0m F)) 90 E0z (E0z.toList.take 9) (odP k d nn s c ob 4 [(7,.val (.int .i64 4)),(8,.ptr oN3 6)]) [] (C0p OdK (E0d 90 [1,2,3,4,5,8,51,52,53,66]))=bif decide (0≤(34:Int)∧(34:Int)≤42∧42≤(d.size:Int)) then some (true,odP k d nn s c ob 4 [(8,.ptr oN3 6),(66,.val (.string (d.extract 34 42)))]) else none:=by kernel_rfl
theorem J4j:B0j Tryz.prog (B0v Tryz.prog {gam:=B0m F} 4 (Bool×St)) (B0p (B0m F)) 90 E0z (E0z.toList.drop 10) {odP k d nn s c ob 4 [(8,.ptr oN3 6),(66,.val (.string str))]with tmps:=(odP k d nn s c ob 4 [(8,.ptr oN3 6),(66,.val (.string str))]).tmps.set 67 (.val (.slice (some ad) 8 cp))} [] (C0p OdK (E0d 90 [1,2,3,4,5,8,51,52,53,67,68,69]))=some (true,odQ k d nn s c ob 4 0 (getO ob 4) (some ad) cp []):=by kernel_rfl
theorem G4p:L0t F k d nn s c ob j z a cp 4:=by delta L0t;kernel_rfl
theorem G4x:L0u F k d nn s c ob j z a cp 4:=by delta L0u;kernel_rfl
theorem H4e:L0v F k d nn s c ob j z a cp 4:=by delta L0v;kernel_rfl
theorem E4p:L0p F k d nn s c ob j z v a cp 4:=by delta L0p;kernel_rfl
theorem E4x:L0q F k d nn s c ob j z a cp 4:=by delta L0q;kernel_rfl
theorem G4e:L0r k d nn s c ob j z v a cp p 4:=by delta L0r;kernel_rfl
theorem J4t:L0w F k d nn s c ob 4:=by delta L0w;kernel_rfl
theorem K4c:L0x F k d nn s c ob 5:=by delta L0x;kernel_rfl
theorem M3r:H0d F k d nn s c ob 5:=by delta H0d;kernel_rfl
theorem H4q:G0n F K1k (odP k d nn s c ob 5 []) OdK [1,2,3,4,5,7,8,51,52,53]=some (.normal,odP k d nn s c ob 5 [(7,.val (.int .i64 5)),(8,.ptr oN3 7)]):=by kernel_rfl
theorem H4z:B0j Tryz.prog (B0v Tryz.prog {gam:=B0m F} 4 (Bool×St)) (B0p (B0m F)) 90 E0z (E0z.toList.take 9) (odP k d nn s c ob 5 [(7,.val (.int .i64 5)),(8,.ptr oN3 7)]) [] (C0p OdK (E0d 90 [1,2,3,4,5,8,51,52,53,66]))=bif decide (0≤(42:Int)∧(42:Int)≤50∧50≤(d.size:Int)) then some (true,odP k d nn s c ob 5 [(8,.ptr oN3 7),(66,.val (.string (d.extract 42 50)))]) else none:=by kernel_rfl
theorem J4k:B0j Tryz.prog (B0v Tryz.prog {gam:=B0m F} 4 (Bool×St)) (B0p (B0m F)) 90 E0z (E0z.toList.drop 10) {odP k d nn s c ob 5 [(8,.ptr oN3 7),(66,.val (.string str))]with tmps:=(odP k d nn s c ob 5 [(8,.ptr oN3 7),(66,.val (.string str))]).tmps.set 67 (.val (.slice (some ad) 8 cp))} [] (C0p OdK (E0d 90 [1,2,3,4,5,8,51,52,53,67,68,69]))=some (true,odQ k d nn s c ob 5 0 (getO ob 5) (some ad) cp []):=by kernel_rfl
theorem G4q:L0t F k d nn s c ob j z a cp 5:=by delta L0t;kernel_rfl
theorem G4y:L0u F k d nn s c ob j z a cp 5:=by delta L0u;kernel_rfl
theorem H4g:L0v F k d nn s c ob j z a cp 5:=by delta L0v;kernel_rfl
theorem E4q:L0p F k d nn s c ob j z v a cp 5:=by delta L0p;kernel_rfl
theorem E4y:L0q F k d nn s c ob j z a cp 5:=by delta L0q;kernel_rfl
theorem G4g:L0r k d nn s c ob j z v a cp p 5:=by delta L0r;kernel_rfl
theorem J4u:L0w F k d nn s c ob 5:=by delta L0w;kernel_rfl
theorem K4d:L0x F k d nn s c ob 6:=by delta L0x;kernel_rfl
theorem M3t:H0d F k d nn s c ob 6:=by delta H0d;kernel_rfl
theorem H4r:G0n F K1k (odP k d nn s c ob 6 []) OdK [1,2,3,4,5,7,8,51,52,53]=some (.normal,odP k d nn s c ob 6 [(7,.val (.int .i64 6)),(8,.ptr oN3 8)]):=by kernel_rfl
theorem J4a:B0j Tryz.prog (B0v Tryz.prog {gam:=B0m F} 4 (Bool×St)) (B0p (B0m F)) 90 E0z (E0z.toList.take 9) (odP k d nn s c ob 6 [(7,.val (.int .i64 6)),(8,.ptr oN3 8)]) [] (C0p OdK (E0d 90 [1,2,3,4,5,8,51,52,53,66]))=bif decide (0≤(50:Int)∧(50:Int)≤58∧58≤(d.size:Int)) then some (true,odP k d nn s c ob 6 [(8,.ptr oN3 8),(66,.val (.string (d.extract 50 58)))]) else none:=by kernel_rfl
theorem J4m:B0j Tryz.prog (B0v Tryz.prog {gam:=B0m F} 4 (Bool×St)) (B0p (B0m F)) 90 E0z (E0z.toList.drop 10) {odP k d nn s c ob 6 [(8,.ptr oN3 8),(66,.val (.string str))]with tmps:=(odP k d nn s c ob 6 [(8,.ptr oN3 8),(66,.val (.string str))]).tmps.set 67 (.val (.slice (some ad) 8 cp))} [] (C0p OdK (E0d 90 [1,2,3,4,5,8,51,52,53,67,68,69]))=some (true,odQ k d nn s c ob 6 0 (getO ob 6) (some ad) cp []):=by kernel_rfl
theorem G4r:L0t F k d nn s c ob j z a cp 6:=by delta L0t;kernel_rfl
theorem G4z:L0u F k d nn s c ob j z a cp 6:=by delta L0u;kernel_rfl
theorem H4h:L0v F k d nn s c ob j z a cp 6:=by delta L0v;kernel_rfl
theorem E4r:L0p F k d nn s c ob j z v a cp 6:=by delta L0p;kernel_rfl
theorem E4z:L0q F k d nn s c ob j z a cp 6:=by delta L0q;kernel_rfl
theorem G4h:L0r k d nn s c ob j z v a cp p 6:=by delta L0r;kernel_rfl
theorem J4v:L0w F k d nn s c ob 6:=by delta L0w;kernel_rfl
theorem K4e:G0n F X2b (odP k d nn s c ob 7 []) OdK [1,2,3,4,5,51,52,53,54]=some (.normal,odP k d nn s c ob 7 [(54,.val (.bool false))]):=by kernel_rfl
theorem M3u:G0n F odXc (odP k d nn s c ob 7 [(54,.val (.bool false))]) [4096,oN1,oN2,oN3] [1,2,3,4,5]=some (.exit 1,{odS k d nn ⟨s,c,ob⟩ []with lo:=oN5}):=by kernel_rfl
theorem od_e:G0n F M3h {odS k d nn ⟨s,c,ob⟩ []with lo:=oN5} [4096,oN1,oN2,oN3] [1,2,3,4,5]=bif !F.rt (ob,()) then some (.ret,gSt 90 (odT0++[(3,.val (.int .i64 3)),(4,.ptr oN2 0),(5,.ptr oN3 0)]) [(4096,fRow k d),(oN1,oRow nn),(oN2,oRow nn),(oN3,oRow ⟨s,c,ob⟩)] oN5) else some (.normal,{odS k d nn ⟨s,c,ob⟩ []with lo:=oN5}):=by kernel_rfl
theorem J4w:G0n F (odR 6) {odS k d nn o []with lo:=oN5} [oN1] [2,3]=some (.ret,odZ o 0 oN5):=by kernel_rfl
theorem M3d(i:Nat):(odQ k d nn s c ob i j z a cp []).tmps.length=90:=by kernel_rfl
theorem M3c(i:Nat)(tm:List (Nat×AV)):(odP k d nn s c ob i tm).tmps.length=90:=by kernel_rfl
end
theorem to7{i:Nat}(h:i<7):i=0∨i=1∨i=2∨i=3∨i=4∨i=5∨i=6:=by omega
noncomputable def E4g(k:Int)(d:ByteArray)(nn:Odr)(s c:Int)(ob:Orb)(i:Nat):D0b Tryz.prog 90 Int 8 where
 id:=3
 id2:=4
 idR:=16
 T1:=odT1
 T2:=odT2
 rO:=A2x
 BD:=M3e
 INC:=X2c
 ty:=227
 te:=5
 tS:=67
 tI:=69
 d1:=71
 d2:=72
 d3:=10
 I j z a cp:=odQ k d nn s c ob i j z a cp []
 I1 j z a cp t:=odQ k d nn s c ob i j z a cp [(70,.val (.bool t))]
 J j z a cp v:=odQ k d nn s c ob i j z a cp [(10,.val (.int .u8 v))]
 K j z a cp:=odQ k d nn s c ob i j z a cp []
 E z:=odP k d nn s c (setO ob i z) i []
 F:=tkF
section
variable {F:R0d} (hG:GamOk Tryz.prog (B0m F)) (k:Int) (d:ByteArray) (nn:Odr) (s c:Int) (ob:Orb)
include hG
theorem M2v{i:Nat}(hi:i<7):(E4g k d nn s c ob i).Ok where
 r0:=E4b
 r1:=E4c
 r2:=E4d
 rn:=E4e
 u:=v38
 ue:=zv5
 s1:=j5
 b1:=by show 71<90;omega
 b2:=by show 72<90;omega
 b3:=by show 10<90;omega
 n1:=by show 71≠72;omega
 len j z a cp:=M3d k d nn s c ob j z a cp i
 hS j z a cp:=by show (odQ k d nn s c ob i j z a cp []).tmps[67]?=_;rfl
 hI j z a cp:=by show (odQ k d nn s c ob i j z a cp []).tmps[69]?=_;rfl
 hJ j z a cp p v:=⟨by
  show Wk (odQ k d nn s c ob i j z a cp [(10,.val (.int .u8 v))]).u _
  have e:G0k OdK (E0d 90 [1,2,3,4,5,8,10,51,52,53,67,68,69]) {odQ k d nn s c ob i j z a cp []with tmps:=(((odQ k d nn s c ob i j z a cp []).tmps.set 71 (.val p)).set 72 (.val (.int .u8 v))).set 10 (.val (.int .u8 v))}=odQ k d nn s c ob i j z a cp [(10,.val (.int .u8 v))]:=by
   rcases to7 hi with rfl | rfl | rfl | rfl | rfl | rfl | rfl
   ·exact G4a ..
   ·exact G4b ..
   ·exact G4c ..
   ·exact G4d ..
   ·exact G4e ..
   ·exact G4g ..
   ·exact G4h ..
  rw[← e]
  exact C0e _ _ _,Nat.le_refl _,Nat.le_refl _⟩
 hT j z a cp:=A0a (E:={gam:=B0m F}) hG (keep:=OdK) (ts:=[1,2,3,4,5,8,51,52,53,67,68,69,70]) (by
  rcases to7 hi with rfl | rfl | rfl | rfl | rfl | rfl | rfl
  ·exact G4j ..
  ·exact G4k ..
  ·exact G4m ..
  ·exact G4n ..
  ·exact G4p ..
  ·exact G4q ..
  ·exact G4r ..)
 hY j z a cp:=A0a (E:={gam:=B0m F}) hG (keep:=OdK) (ts:=[1,2,3,4,5,8,51,52,53,67,68,69]) (by
  rcases to7 hi with rfl | rfl | rfl | rfl | rfl | rfl | rfl
  ·exact G4t ..
  ·exact G4u ..
  ·exact G4v ..
  ·exact G4w ..
  ·exact G4x ..
  ·exact G4y ..
  ·exact G4z ..)
 hX j z a cp:=A0a (E:={gam:=B0m F}) hG (keep:=OdK) (ts:=[1,2,3,4,5,51,52,53]) (by
  rcases to7 hi with rfl | rfl | rfl | rfl | rfl | rfl | rfl
  ·exact H4a ..
  ·exact H4b ..
  ·exact H4c ..
  ·exact H4d ..
  ·exact H4e ..
  ·exact H4g ..
  ·exact H4h ..)
 hB j z a cp v:=A0a (E:={gam:=B0m F}) hG (keep:=OdK) (ts:=[1,2,3,4,5,8,51,52,53,67,68,69]) (by
  rcases to7 hi with rfl | rfl | rfl | rfl | rfl | rfl | rfl
  ·exact E4j ..
  ·exact E4k ..
  ·exact E4m ..
  ·exact E4n ..
  ·exact E4p ..
  ·exact E4q ..
  ·exact E4r ..)
 hC j z a cp hj:=by
  have e:IntKind.i64.wrap ((j:Int)+1)=((j+1:Nat):Int):=by rw[C0k];omega
  have h:G0n F X2c (odQ k d nn s c ob i j z a cp []) OdK [1,2,3,4,5,8,51,52,53,67,68,69]=some (.normal,odQ k d nn s c ob i (IntKind.i64.wrap (j+1)) z a cp []):=by
   rcases to7 hi with rfl | rfl | rfl | rfl | rfl | rfl | rfl
   ·exact E4t ..
   ·exact E4u ..
   ·exact E4v ..
   ·exact E4w ..
   ·exact E4x ..
   ·exact E4y ..
   ·exact E4z ..
  rw[e]at h
  exact A0a (E:={gam:=B0m F}) hG h
omit hG in
theorem od_b{i:Nat}(hi:i<7)(hd:58≤d.size):B0j Tryz.prog (B0v Tryz.prog {gam:=B0m F} 4 (Bool×St)) (B0p (B0m F)) 90 E0z (E0z.toList.take 9) (odP k d nn s c ob i [(7,.val (.int .i64 i)),(8,.ptr oN3 (2+i))]) [] (C0p OdK (E0d 90 [1,2,3,4,5,8,51,52,53,66])) =
  some (true,odP k d nn s c ob i [(8,.ptr oN3 (2+i)),(66,.val (.string (d.extract (2+8*i) (10+8*i))))]):=by
 rcases to7 hi with rfl | rfl | rfl | rfl | rfl | rfl | rfl
 ·have h:=H4u F k d nn s c ob
  rw[decide_eq_true (by omega),cond_true]at h
  exact h
 ·have h:=H4v F k d nn s c ob
  rw[decide_eq_true (by omega),cond_true]at h
  exact h
 ·have h:=H4w F k d nn s c ob
  rw[decide_eq_true (by omega),cond_true]at h
  exact h
 ·have h:=H4x F k d nn s c ob
  rw[decide_eq_true (by omega),cond_true]at h
  exact h
 ·have h:=H4y F k d nn s c ob
  rw[decide_eq_true (by omega),cond_true]at h
  exact h
 ·have h:=H4z F k d nn s c ob
  rw[decide_eq_true (by omega),cond_true]at h
  exact h
 ·have h:=J4a F k d nn s c ob
  rw[decide_eq_true (by omega),cond_true]at h
  exact h
omit hG in
theorem od_c{i:Nat}(hi:i<7)(str:ByteArray)(ad:Addr)(cp:Nat):B0j Tryz.prog (B0v Tryz.prog {gam:=B0m F} 4 (Bool×St)) (B0p (B0m F)) 90 E0z (E0z.toList.drop 10) {odP k d nn s c ob i [(8,.ptr oN3 (2+i)),(66,.val (.string str))]with tmps:=(odP k d nn s c ob i [(8,.ptr oN3 (2+i)),(66,.val (.string str))]).tmps.set 67 (.val (.slice (some ad) 8 cp))} [] (C0p OdK (E0d 90 [1,2,3,4,5,8,51,52,53,67,68,69])) =
  some (true,odQ k d nn s c ob i 0 (getO ob i) (some ad) cp []):=by
 rcases to7 hi with rfl | rfl | rfl | rfl | rfl | rfl | rfl
 ·exact J4d ..
 ·exact J4e ..
 ·exact J4g ..
 ·exact J4h ..
 ·exact J4j ..
 ·exact J4k ..
 ·exact J4m ..
def ordR(d:ByteArray)(i:Nat)(ob:Orb):Orb:=setO ob i ((d.extract (2+8*i) (10+8*i)).data.toList.foldl (fun z b=>tkF z b.toNat) (getO ob i))
theorem X2d{i:Nat}(hi:i<7)(hd:58≤d.size):A0b Tryz.prog 90 odOB (odP k d nn s c ob i []) .normal (odP k d nn s c (ordR d i ob) (i+1) []):=by
 have ht:G0n F X2b (odP k d nn s c ob i []) OdK [1,2,3,4,5,51,52,53,54]=some (.normal,odP k d nn s c ob i [(54,.val (.bool true))]):=by
  rcases to7 hi with rfl | rfl | rfl | rfl | rfl | rfl | rfl
  ·exact J4x ..
  ·exact J4y ..
  ·exact J4z ..
  ·exact K4a ..
  ·exact K4b ..
  ·exact K4c ..
  ·exact K4d ..
 have hx:G0n F odXc (odP k d nn s c ob i [(54,.val (.bool true))]) OdK [1,2,3,4,5,51,52,53]=some (.normal,odP k d nn s c ob i []):=by
  rcases to7 hi with rfl | rfl | rfl | rfl | rfl | rfl | rfl
  ·exact M3k ..
  ·exact M3m ..
  ·exact M3n ..
  ·exact M3p ..
  ·exact M3q ..
  ·exact M3r ..
  ·exact M3t ..
 have ha:G0n F K1k (odP k d nn s c ob i []) OdK [1,2,3,4,5,7,8,51,52,53]=some (.normal,odP k d nn s c ob i [(7,.val (.int .i64 i)),(8,.ptr oN3 (2+i))]):=by
  rcases to7 hi with rfl | rfl | rfl | rfl | rfl | rfl | rfl
  ·exact H4j ..
  ·exact H4k ..
  ·exact H4m ..
  ·exact H4n ..
  ·exact H4p ..
  ·exact H4q ..
  ·exact H4r ..
 have hd2:∀ob',G0n F M3g (odP k d nn s c ob' i []) OdK [1,2,3,4,5,51,52,53]=some (.normal,odP k d nn s c ob' (i+1) []):=by
  intro ob'
  rcases to7 hi with rfl | rfl | rfl | rfl | rfl | rfl | rfl
  ·exact J4n ..
  ·exact J4p ..
  ·exact J4q ..
  ·exact J4r ..
  ·exact J4t ..
  ·exact J4u ..
  ·exact J4v ..
 rw[M2w]
 refine .seq (A0a (E:={gam:=B0m F}) hG ht) (.seq (A0a (E:={gam:=B0m F}) hG hx) (.seq (.block (.seq (A0a (E:={gam:=B0m F}) hG ha) ?_) (.inl rfl)) (A0a (E:={gam:=B0m F}) hG (hd2 _))))
 intro w0 own σ0 lo0 hi0 act w hst Q hQ
 have hsz:(d.extract (2+8*i) (10+8*i)).size=8:=by rw[ByteArray.size_extract];omega
 refine wp_seq (wp_region ?_)
 rw[E4a]
 refine D0z (B0b (E:={gam:=B0m F}) hG 4 _) OdK _ (od_b (F:=F) k d nn s c ob hi hd) (fun _ _ hj=>L0b hj) hst _ fun a1 w1 h1=>?_
 refine M1x D4z (by omega) (M3c ..) h1 (str:=d.extract (2+8*i) (10+8*i)) rfl v9 v38 zv5 _ fun a2 w2 own1 σ1 r cp hr ho hcell _ h2 back=>?_
 rw[hsz]at h2 hcell
 refine D0z (B0b (E:={gam:=B0m F}) hG 4 _) OdK _ (od_c (F:=F) k d nn s c ob hi _ ⟨r,0,none⟩ cp) (fun _ _ hj=>D0k hj) h2 [] fun a3 w3 h3=>?_
 refine D0b.run (M2v hG k d nn s c ob hi) (l:=(d.extract (2+8*i) (10+8*i)).data.toList) hsz hr ho hcell (getO ob i) h3 fun a4 w4 h4=>?_
 exact hQ a4 w4 (back _ _ _ h4)
end
theorem M2x(k:Int)(d:ByteArray)(e:Int):resA Tryz.prog (gSt 90 (odT0++[(3,.val (.int .i64 e))]) [(4096,fRow k d),(oN1,oRow odr0)] oN2) Tryz.f211.results.toList=some [.val (Cod.enc odr0),.val (.int .i64 e)]:=by kernel_rfl
theorem U1n(k:Int)(d:ByteArray)(e:Int)(nn o:Odr)(lo:Nat):resA Tryz.prog (gSt 90 (odT0++[(3,.val (.int .i64 e)),(4,.ptr oN2 0),(5,.ptr oN3 0)]) [(4096,fRow k d),(oN1,oRow nn),(oN2,oRow nn),(oN3,oRow o)] lo) Tryz.f211.results.toList=some [.val (Cod.enc nn),.val (.int .i64 e)]:=by kernel_rfl
theorem M2y(o:Odr)(e:Int)(lo:Nat):resA Tryz.prog (odZ o e lo) Tryz.f211.results.toList=some [.val (Cod.enc o),.val (.int .i64 e)]:=by kernel_rfl
def odNn(d:ByteArray):Odr:=⟨IntKind.i64.wrap (byA d 0),0,orb0⟩
def odCd(d:ByteArray):Int:=IntKind.i64.wrap (byA d 1)
def odOb(d:ByteArray):Orb:=A0k (ordR d) 0 7 orb0
def ordO(F:R0d)(p:Fr×Unit):Two Odr Int :=
 bif p.1.kind != 16 then ⟨odr0,1⟩ else bif decide ((p.1.data.size:Int)<2) then ⟨odr0,1⟩ else
 bif F.lo (odCd p.1.data,())==0 then ⟨odNn p.1.data,2⟩ else bif F.lo (odCd p.1.data,()) != (p.1.data.size:Int) then ⟨odNn p.1.data,1⟩ else
 bif odCd p.1.data==3 then bif !F.rt (odOb p.1.data,()) then ⟨odNn p.1.data,3⟩ else ⟨⟨(odNn p.1.data).seq,odCd p.1.data,odOb p.1.data⟩,0⟩ else ⟨⟨(odNn p.1.data).seq,odCd p.1.data,orb0⟩,0⟩
section
variable {F:R0d} (hG:GamOk Tryz.prog (B0m F)) (hF:F.lo (3,())=58) (k:Int) (d:ByteArray)
include hG
theorem M3j(nn:Odr)(s c:Int)(hd:58≤d.size):A0b Tryz.prog 90 (.block 1 (.loop odOB)) (odP k d nn s c orb0 0 []) .normal {odS k d nn ⟨s,c,odOb d⟩ []with lo:=oN5}:=by
 refine A0b.rounds (id:=1) (c:=odOB) 7 (fun i ob=>odP k d nn s c ob i []) (fun ob=>{odS k d nn ⟨s,c,ob⟩ []with lo:=oN5}) (ordR d) (fun i ob hi=>X2d hG k d nn s c ob hi hd) (fun ob=>?_) orb0
 rw[M2w]
 exact .seq (A0a (E:={gam:=B0m F}) hG (K4e F k d nn s c ob)) (A0b.seqX (A0a (E:={gam:=B0m F}) hG (M3u F k d nn s c ob)))
omit hG in
theorem A0b.condT{P:Program}{N:Nat}{t:Nat}{c e:Code}{s s':St}{x:Ex}(ht:s.tmps[t]?=some (.val (.bool true)))(h:A0b P N c s x s'):A0b P N (.cond (.tmp t) c e) s x s':=fun w0 own σ0 lo0 hi0 a w hst Q hQ=>wp_cond_true (hst.eval ht) (h w0 own σ0 lo0 hi0 a w hst Q hQ)
omit hG in
theorem A0b.condF{P:Program}{N:Nat}{t:Nat}{c e:Code}{s s':St}{x:Ex}(ht:s.tmps[t]?=some (.val (.bool false)))(h:A0b P N e s x s'):A0b P N (.cond (.tmp t) c e) s x s':=fun w0 own σ0 lo0 hi0 a w hst Q hQ=>wp_cond_false (hst.eval ht) (h w0 own σ0 lo0 hi0 a w hst Q hQ)
omit hG in
theorem M3v(nn o:Odr)(v:Value):G0k [4096,oN1,oN2,oN3] (E0d 90 [1,2,3,4,5]) (odS k d nn o [(49,.val v)])=odS k d nn o []:=by kernel_rfl
include hF in
theorem H4t:∃s',A0b Tryz.prog 90 (.seq (odL 0) (.seq (odL 1) (.seq (odL 2) (.seq (odL 3) (.seq (odL 4) (.seq (odL 5) (odR 6))))))) (B0t 90 [.val (Cod.enc (Fr.mk k d))] []) .ret s'∧resA Tryz.prog s' Tryz.f211.results.toList=some [.val (Cod.enc (ordO F (⟨k,d⟩,())).a),.val (.int .i64 (ordO F (⟨k,d⟩,())).b)]:=by
 have h0:=A0a (E:={gam:=B0m F}) hG (H5k F k d)
 have h1:=H5m F k d
 unfold ordO
 dsimp only
 cases c1:(k != 16) with
 | true =>
  rw[c1]at h1
  exact ⟨_,.seq h0 (A0b.seqR (A0a (E:={gam:=B0m F}) hG h1)),M2x ..⟩
 | false =>
  rw[c1,cond_false]at h1
  cases c2:decide ((d.size:Int)<2) with
  | true =>
   rw[c2]at h1
   exact ⟨_,.seq h0 (A0b.seqR (A0a (E:={gam:=B0m F}) hG h1)),M2x ..⟩
  | false =>
   rw[c2]at h1
   have hs:¬ (d.size:Int)<2:=of_decide_eq_false c2
   have h2:=H5n F k d
   rw[decide_eq_true (by omega),cond_true]at h2
   have h3:=H5p F k d (odNn d)
   rw[decide_eq_true (by omega),cond_true]at h3
   have h4:=H5q F k d (odNn d) ⟨(odNn d).seq,odCd d,orb0⟩
   have pre:∀{s'},A0b Tryz.prog 90 (.seq (odL 4) (.seq (odL 5) (odR 6))) (odS k d (odNn d) ⟨(odNn d).seq,odCd d,orb0⟩ []) .ret s'→A0b Tryz.prog 90 (.seq (odL 0) (.seq (odL 1) (.seq (odL 2) (.seq (odL 3) (.seq (odL 4) (.seq (odL 5) (odR 6))))))) (B0t 90 [.val (Cod.enc (Fr.mk k d))] []) .ret s':=fun h =>
    .seq h0 (.seq (A0a (E:={gam:=B0m F}) hG h1) (.seq (A0a (E:={gam:=B0m F}) hG h2) (.seq (A0a (E:={gam:=B0m F}) hG h3) h)))
   simp only[cond_false]
   dsimp only at h4
   cases c3:F.lo (odCd d,())==0 with
   | true =>
    rw[c3]at h4
    exact ⟨_,pre (A0b.seqR (A0a (E:={gam:=B0m F}) hG h4)),U1n ..⟩
   | false =>
    rw[c3,cond_false]at h4
    simp only[cond_false]
    cases c4:F.lo (odCd d,()) != (d.size:Int) with
    | true =>
     rw[c4]at h4
     exact ⟨_,pre (A0b.seqR (A0a (E:={gam:=B0m F}) hG h4)),U1n ..⟩
    | false =>
     rw[c4]at h4
     have h10:=J4b F k d (odNn d) ⟨(odNn d).seq,odCd d,orb0⟩
     simp only[cond_false]
     cases c5:odCd d==3 with
     | false =>
      have c5':((⟨(odNn d).seq,odCd d,orb0⟩:Odr).code==3)=false:=c5
      rw[c5']at h10
      refine ⟨_,pre (.seq (A0a (E:={gam:=B0m F}) hG h4) (.seq ?_ (A0a (E:={gam:=B0m F}) hG (H5r F k d (odNn d) ⟨(odNn d).seq,odCd d,orb0⟩)))),M2y ..⟩
      rw[C3k]
      refine .seq (A0a (E:={gam:=B0m F}) hG h10) (A0b.condF rfl fun w0 own σ0 lo0 hi0 a w hst Q hQ=>wp_skip (hQ a w ?_))
      refine hst.weak ?_ (Nat.le_refl _) (Nat.le_refl _)
      rw[← M3v k d (odNn d) _ (.bool false)]
      exact C0e _ _ _
     | true =>
      have e3:odCd d=3:=by simpa using c5
      have hsz:58≤d.size:=by
       rw[e3,hF]at c4
       simp at c4
       omega
      have c5':((⟨(odNn d).seq,odCd d,orb0⟩:Odr).code==3)=true:=c5
      rw[c5']at h10
      have h20:=od_e F k d (odNn d) (odNn d).seq (odCd d) (odOb d)
      have head:∀{x s'},A0b Tryz.prog 90 M3h {odS k d (odNn d) ⟨(odNn d).seq,odCd d,odOb d⟩ []with lo:=oN5} x s'→A0b Tryz.prog 90 (odL 5) (odS k d (odNn d) ⟨(odNn d).seq,odCd d,orb0⟩ []) x s':=by
       intro x s' h
       rw[C3k]
       exact .seq (A0a (E:={gam:=B0m F}) hG h10) (A0b.condT rfl (.seq (.seq (A0a (E:={gam:=B0m F}) hG (J4c F k d (odNn d) (odNn d).seq (odCd d) orb0)) (M3j hG k d (odNn d) (odNn d).seq (odCd d) hsz)) h))
      simp only[cond_true]
      cases c6:F.rt (odOb d,()) with
      | false =>
       rw[c6]at h20
       exact ⟨_,pre (.seq (A0a (E:={gam:=B0m F}) hG h4) (A0b.seqR (head (A0a (E:={gam:=B0m F}) hG h20)))),U1n ..⟩
      | true =>
       rw[c6]at h20
       exact ⟨_,pre (.seq (A0a (E:={gam:=B0m F}) hG h4) (.seq (head (A0a (E:={gam:=B0m F}) hG h20)) (A0a (E:={gam:=B0m F}) hG (J4w F k d (odNn d) ⟨(odNn d).seq,odCd d,odOb d⟩)))),M2y ..⟩
end
def J3e(p:Int×Unit):Int:=bif p.1==1 then 2 else bif p.1==2 then 2 else bif p.1==4 then 2 else bif p.1==3 then 58 else 0
theorem J3d(k:Int):fnSum Tryz.prog {gam:=[]} [] 20 242 [.val (.int .i64 k)] []=bif k==1 then some (.val (.int .i64 2),[]) else bif k==2 then some (.val (.int .i64 2),[]) else bif k==4 then some (.val (.int .i64 2),[]) else bif k==3 then some (.val (.int .i64 58),[]) else some (.val (.int .i64 0),[]):=by kernel_rfl
theorem L4a:A0h Tryz.prog 242 (S0 J3e):=H0n (E:={gam:=[]}) GamOk.nil 20 fun a=>by
 refine (J3d a.1).trans ?_
 unfold J3e
 cases a.1==1<;>cases a.1==2<;>cases a.1==4<;>cases a.1==3<;>rfl
def OD:R0d:={lo:=J3e,rt:=fun p=>V0e p.1}
theorem C5d:GamOk Tryz.prog (B0m OD):=.cons L4a (.cons N2e .nil)
def ordV:Fr×Unit→Two Odr Int:=ordO OD
theorem J5v:A0h Tryz.prog 211 (S0 ordV):=by
 intro args cs r cs' hs
 obtain ⟨⟨⟨k,d⟩,_⟩,rfl,rfl,rfl,rfl⟩:=W1w hs
 obtain ⟨s',h1,h2⟩:=H4t C5d rfl k d
 exact E0k G3n H5j od_N (by show 1≤90;omega) (by simp) rfl rfl rfl (.inr rfl) h1 h2 rfl rfl (fun _ _ h=>by simp at h) rfl rfl
def V0g(x:CX)(a:Fr×Unit):CX:=Q1c rejX x (ordV a)
theorem X2w:A0h Tryz.prog 166 (SM (fun _ _=>true) fun x (a:Fr×Unit)=>(C2d,V0g x a)):=N3n (.cons Y1k (.cons J5v .nil))
section
variable (F:P0j) (z:Int) (d:ByteArray) (c0 c1 c2 c3 c4 c5 c6 c7 c8 c9 ca cb:UInt8) (t:RdT)
noncomputable abbrev D1w(F:P0j)(s:St):Option (Ex×St):=gCut Tryz.prog {gam:=G0d F} 165 rdLB s rN4 [4096,rN1,rN2,rN3] [1,2,3,5,8,9,10,11,60]
def ds6:ByteArray:=⟨#[c0,c1,c2,c3,c4,c5]⟩
def ds12:ByteArray:=⟨#[c0,c1,c2,c3,c4,c5,c6,c7,c8,c9,ca,cb]⟩
def rdI1(k z:Int)(d ds:ByteArray)(i:Nat)(t:RdT):St:=rdJ k d z ds t [(60,.val (.int .i64 i))]
def gyT(z:Int)(d ds:ByteArray)(i:Nat)(t:RdT):Option (Ex×St):=bif t.ok then bif decide (gyN ds i≤30000) then some (.normal,rdI1 1 z d ds (i+1) (rdG ds i t (decide (gyN ds i≥-30000)))) else some (.normal,rdI1 1 z d ds (i+1) (rdG ds i t false)) else some (.normal,rdI1 1 z d ds (i+1) (rdG ds i t false))
def suT(z:Int)(d ds:ByteArray)(i:Nat)(t:RdT):Option (Ex×St):=bif t.lit then some (.normal,rdI1 2 z d ds (i+1) (rdU ds i t true)) else some (.normal,rdI1 2 z d ds (i+1) (rdU ds i t (suB ds i)))
theorem K5r:D1w F (rdI1 1 z d (ds6 c0 c1 c2 c3 c4 c5) 0 t)=gyT z d (ds6 c0 c1 c2 c3 c4 c5) 0 t:=by kernel_rfl
theorem K5t:D1w F (rdI1 1 z d (ds6 c0 c1 c2 c3 c4 c5) 1 t)=gyT z d (ds6 c0 c1 c2 c3 c4 c5) 1 t:=by kernel_rfl
theorem K5u:D1w F (rdI1 1 z d (ds6 c0 c1 c2 c3 c4 c5) 2 t)=gyT z d (ds6 c0 c1 c2 c3 c4 c5) 2 t:=by kernel_rfl
theorem K5v:D1w F (rdI1 3 z d (ds6 c0 c1 c2 c3 c4 c5) 0 t)=some (.normal,rdI1 3 z d (ds6 c0 c1 c2 c3 c4 c5) 1 (rdM F (ds6 c0 c1 c2 c3 c4 c5) 0 t)):=by kernel_rfl
theorem K5w:D1w F (rdI1 3 z d (ds6 c0 c1 c2 c3 c4 c5) 1 t)=some (.normal,rdI1 3 z d (ds6 c0 c1 c2 c3 c4 c5) 2 (rdM F (ds6 c0 c1 c2 c3 c4 c5) 1 t)):=by kernel_rfl
theorem K5x:D1w F (rdI1 3 z d (ds6 c0 c1 c2 c3 c4 c5) 2 t)=some (.normal,rdI1 3 z d (ds6 c0 c1 c2 c3 c4 c5) 3 (rdM F (ds6 c0 c1 c2 c3 c4 c5) 2 t)):=by kernel_rfl
theorem L5p:D1w F (rdI1 2 z d (ds12 c0 c1 c2 c3 c4 c5 c6 c7 c8 c9 ca cb) 0 t)=suT z d (ds12 c0 c1 c2 c3 c4 c5 c6 c7 c8 c9 ca cb) 0 t:=by kernel_rfl
theorem L5q:D1w F (rdI1 2 z d (ds12 c0 c1 c2 c3 c4 c5 c6 c7 c8 c9 ca cb) 1 t)=suT z d (ds12 c0 c1 c2 c3 c4 c5 c6 c7 c8 c9 ca cb) 1 t:=by kernel_rfl
theorem L5r:D1w F (rdI1 2 z d (ds12 c0 c1 c2 c3 c4 c5 c6 c7 c8 c9 ca cb) 2 t)=suT z d (ds12 c0 c1 c2 c3 c4 c5 c6 c7 c8 c9 ca cb) 2 t:=by kernel_rfl
theorem M4m(k:Int)(ds:ByteArray)(i:Nat):A0p rN4 (rdI1 k z d ds i t)=true:=by kernel_rfl
end
end Go.Ab
