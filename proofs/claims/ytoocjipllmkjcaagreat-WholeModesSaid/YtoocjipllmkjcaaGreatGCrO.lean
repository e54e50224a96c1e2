/- A part of the proofs: lemmas, no statement of their own; no condition. -/
import Derived.Test.YtoocjipllmkjcaaGreatGFrS
import Derived.Test.YtoocjipllmkjcaaGreatGRtF
set_option linter.unusedSimpArgs false
namespace Go.Ab
open Go Go.Proofs
def tkF(z v:Int):Int:=orV (IntKind.i64.wrap (z*2^8)) (IntKind.i64.wrap v)
def rdK(k:Int)(d:ByteArray)(i z:Int)(a:Option Addr)(c:Nat)(tm:List (Nat×AV)):St:=rdS5 k d z ([(38,.val (.slice a 6 c)),(39,.val (.int .i64 6)),(40,.val (.int .i64 i))]++tm)
section
variable (F:RdOps) (k z n i v:Int) (d ds:ByteArray) (a:Option Addr) (ad:Addr) (c:Nat) (t:RdT) (b:Bool) (p:Value)
theorem rd5_3:sigOf rdO5 3=some (.convert 9 227 (.tmp 37),some 38,true):=by kernel_rfl
theorem rd5_n:List.range rdO5.size=(List.range (rdO5.toList.take 3).length).map (0+·)++(3 :: ((List.range (rdO5.toList.drop 4).length).map (4+·)++[])):=by kernel_rfl
theorem rd7_0:sigOf rdO7 0=some (.indexAddr 227 (.tmp 38) (.tmp 40),some 42,true):=by kernel_rfl
theorem rd7_1:sigOf rdO7 1=some (.load 5 (.tmp 42),some 43,true):=by kernel_rfl
theorem rd7_2:sigOf rdO7 2=some (.assign (.tmp 43),some 7,true):=by kernel_rfl
theorem rd7_n:List.range rdO7.size=[0,1,2]:=by kernel_rfl
theorem rd_q5a:opsRun Tryz.prog (callN Tryz.prog {gam:=gamRd F} 4 (Bool×St)) (isSum (gamRd F)) 165 rdO5 (rdO5.toList.take 3) (rdS5 k d 0 []) [] (endOps [4096,rN1,rN2] (restN 165 [1,2,3,5,37]))=bif decide (0≤(0:Int)∧0≤(6:Int)∧6≤(d.size:Int)) then some (true,rdS5 k d 0 [(37,.val (.string (d.extract 0 6)))]) else none:=by kernel_rfl
theorem rd_q5b(s:ByteArray):opsRun Tryz.prog (callN Tryz.prog {gam:=gamRd F} 4 (Bool×St)) (isSum (gamRd F)) 165 rdO5 (rdO5.toList.drop 4) {rdS5 k d 0 [(37,.val (.string s))]with tmps:=(rdS5 k d 0 [(37,.val (.string s))]).tmps.set 38 (.val (.slice (some ad) 6 c))} [] (endOps [4096,rN1,rN2] (restN 165 [1,2,3,5,38,39,40]))=some (true,rdK k d 0 0 (some ad) c []):=by kernel_rfl
theorem rd_qT:rdRun F rdT1 (rdK k d i z a c []) [4096,rN1,rN2] [1,2,3,5,38,39,40,41]=some (.normal,rdK k d i z a c [(41,.val (.bool (decide (i<6))))]):=by kernel_rfl
theorem rd_qY:rdRun F rdT2 (rdK k d i z a c [(41,.val (.bool true))]) [4096,rN1,rN2] [1,2,3,5,38,39,40]=some (.normal,rdK k d i z a c []):=by kernel_rfl
theorem rd_qZ:rdRun F rdT2 (rdK k d i z a c [(41,.val (.bool false))]) [4096,rN1,rN2] [1,2,3,5]=some (.exit 0,rdS5 k d z []):=by kernel_rfl
theorem rd_qB:rdRun F rdC8 (rdK k d i z a c [(7,.val (.int .u8 v))]) [4096,rN1,rN2] [1,2,3,5,38,39,40]=some (.normal,rdK k d i (tkF z v) a c []):=by kernel_rfl
theorem rd_qC:rdRun F rdC9 (rdK k d i z a c []) [4096,rN1,rN2] [1,2,3,5,38,39,40]=some (.normal,rdK k d (IntKind.i64.wrap (i+1)) z a c []):=by kernel_rfl
theorem rd_wJ:dropSt [4096,rN1,rN2] (restN 165 [1,2,3,5,7,38,39,40]) {rdK k d i z a c []with tmps:=(((rdK k d i z a c []).tmps.set 42 (.val p)).set 43 (.val (.int .u8 v))).set 7 (.val (.int .u8 v))}=rdK k d i z a c [(7,.val (.int .u8 v))]:=by kernel_rfl
theorem rd_len:(rdK k d i z a c []).tmps.length=165:=by kernel_rfl
theorem rd_len5:(rdS5 k d z [(37,.val (.string ds))]).tmps.length=165:=by kernel_rfl
end
noncomputable def rdLoop(k:Int)(d:ByteArray):BytesLoop Tryz.prog 165 Int 6 where
 id:=0
 id2:=1
 idR:=7
 T1:=rdT1
 T2:=rdT2
 rO:=rdO7
 BD:=rdC8
 INC:=rdC9
 ty:=227
 te:=5
 tS:=38
 tI:=40
 d1:=42
 d2:=43
 d3:=7
 I i z a c:=rdK k d i z a c []
 I1 i z a c t:=rdK k d i z a c [(41,.val (.bool t))]
 J i z a c v:=rdK k d i z a c [(7,.val (.int .u8 v))]
 K i z a c:=rdK k d i z a c []
 E z:=rdS5 k d z []
 F:=tkF
theorem rdLoop_ok{F:RdOps}(hG:GamOk Tryz.prog (gamRd F))(k:Int)(d:ByteArray):(rdLoop k d).Ok where
 r0:=rd7_0
 r1:=rd7_1
 r2:=rd7_2
 rn:=rd7_n
 u:=v38
 ue:=zv5
 s1:=j5
 b1:=by show 42<165;omega
 b2:=by show 43<165;omega
 b3:=by show 7<165;omega
 n1:=by show 42≠43;omega
 len i z a c:=rd_len k z i d a c
 hS i z a c:=by show (rdK k d i z a c []).tmps[38]?=_;rfl
 hI i z a c:=by show (rdK k d i z a c []).tmps[40]?=_;rfl
 hJ i z a c p v:=⟨by
  show Wk (rdK k d i z a c [(7,.val (.int .u8 v))]).u _
  rw[← rd_wJ k z i v d a c p]
  exact dropSt_wk _ _ _,Nat.le_refl _,Nat.le_refl _⟩
 hT i z a c:=gRun_runs (E:={gam:=gamRd F}) hG (rd_qT F k z i d a c)
 hY i z a c:=gRun_runs (E:={gam:=gamRd F}) hG (rd_qY F k z i d a c)
 hX i z a c:=gRun_runs (E:={gam:=gamRd F}) hG (rd_qZ F k z i d a c)
 hB i z a c v:=gRun_runs (E:={gam:=gamRd F}) hG (rd_qB F k z i v d a c)
 hC i z a c hi:=by
  have h:=gRun_runs (E:={gam:=gamRd F}) hG (rd_qC F k z i d a c)
  have e:IntKind.i64.wrap ((i:Int)+1)=((i+1:Nat):Int):=by rw[wrapM];omega
  rw[e]at h
  exact h
def tickV(d:ByteArray):Int:=(d.extract 0 6).data.toList.foldl (fun z b=>tkF z b.toNat) 0
theorem rd_p4{F:RdOps}(hG:GamOk Tryz.prog (gamRd F))(k:Int)(d:ByteArray)(hd:6≤d.size):RunsTo Tryz.prog 165 (rdL 4) (rdS5 k d 0 []) .normal (rdS5 k d (tickV d) []):=by
 rw[rd4_is]
 intro w0 own σ0 lo0 hi0 act w hst Q hQ
 have hsz:(d.extract 0 6).size=6:=by rw[ByteArray.size_extract];omega
 have hq:=rd_q5a F k d
 rw[decide_eq_true (by omega),cond_true]at hq
 refine wp_seq (wp_region ?_)
 rw[rd5_n]
 refine ops_fit (callN_ok (E:={gam:=gamRd F}) hG 4 _) [4096,rN1,rN2] _ hq (fun _ _ hj=>take_at hj) hst _ fun a1 w1 h1=>?_
 refine conv_else rd5_3 (by omega) (rd_len5 ..) h1 (str:=d.extract 0 6) rfl v9 v38 zv5 _ fun a2 w2 own1 σ1 r c hr ho hcell _ h2 back=>?_
 rw[hsz]at h2 hcell
 refine ops_fit (callN_ok (E:={gam:=gamRd F}) hG 4 _) [4096,rN1,rN2] _ (rd_q5b F k d ⟨r,0,none⟩ c (d.extract 0 6)) (fun _ _ hj=>drop_at hj) h2 [] fun a3 w3 h3=>?_
 refine BytesLoop.run (rdLoop_ok hG k d) (l:=(d.extract 0 6).data.toList) hsz hr ho hcell 0 h3 fun a4 w4 h4=>?_
 exact hQ a4 w4 (back _ _ _ h4)
end Go.Ab
namespace Go.Ab
open Go Go.Proofs
structure OdOps where
 lo:Int×Unit→Int
 rt:Orb×Unit→Bool
def gamOr(F:OdOps):Gam:=[(242,S0 F.lo),(212,S0 F.rt)]
noncomputable def odR:Nat→Code
 | 0=>Tryz.f211.body.getD .skip
 | k+1=>seqR (odR k)
noncomputable def odL(k:Nat):Code:=seqL (odR k)
theorem od_is:Tryz.f211.body=some (.seq (odL 0) (.seq (odL 1) (.seq (odL 2) (.seq (odL 3) (.seq (odL 4) (.seq (odL 5) (odR 6))))))):=by kernel_rfl
theorem od_N:Tryz.f211.ntmps=90:=by kernel_rfl
theorem f211_is:Tryz.prog.funcs[211]?=some Tryz.f211:=by kernel_rfl
def oN1:Nat:=4096+1*2^180
def oN2:Nat:=4096+2*2^180
def oN3:Nat:=4096+3*2^180
def oN4:Nat:=4096+4*2^180
def oRow(o:Odr):Con:=.row 86 ((CodL.encl o).map AV.val)
def orb0:Orb:=⟨0,0,0,0,0,0,0⟩
def odr0:Odr:=⟨0,0,orb0⟩
def odT0:List (Nat×AV):=[(1,.ptr 4096 0),(2,.ptr oN1 0)]
def odT:List (Nat×AV):=[(1,.ptr 4096 0),(2,.ptr oN1 0),(3,.val (.int .i64 0)),(4,.ptr oN2 0),(5,.ptr oN3 0)]
def odS0(k:Int)(d:ByteArray):St:=gSt 90 (odT0++[(3,.val (.int .i64 0))]) [(4096,fRow k d),(oN1,oRow odr0)] oN2
def odS1(k:Int)(d:ByteArray)(nn:Odr):St:=gSt 90 (odT0++[(3,.val (.int .i64 0)),(4,.ptr oN2 0)]) [(4096,fRow k d),(oN1,oRow odr0),(oN2,oRow nn)] oN3
def odS(k:Int)(d:ByteArray)(nn o:Odr)(tm:List (Nat×AV)):St:=gSt 90 (odT++tm) [(4096,fRow k d),(oN1,oRow odr0),(oN2,oRow nn),(oN3,oRow o)] oN4
def odZ(o:Odr)(e:Int)(lo:Nat):St:=gSt 90 [(2,.ptr oN1 0),(3,.val (.int .i64 e))] [(oN1,oRow o)] lo
noncomputable abbrev odRun(F:OdOps)(c:Code)(s:St)(ks ts:List Nat):Option (Ex×St):=gRun Tryz.prog {gam:=gamOr F} 90 c s ks ts
section
variable (F:OdOps) (k n:Int) (d:ByteArray) (nn o:Odr)
theorem od_q0:odRun F (odL 0) (startS 90 [.val (Cod.enc (Fr.mk k d))] []) [4096,oN1] [1,2,3]=some (.normal,odS0 k d):=by kernel_rfl
theorem od_q1:odRun F (odL 1) (odS0 k d) [4096,oN1] [1,2,3]=bif k != 16 then some (.ret,gSt 90 (odT0++[(3,.val (.int .i64 1))]) [(4096,fRow k d),(oN1,oRow odr0)] oN2) else bif decide ((d.size:Int)<2) then some (.ret,gSt 90 (odT0++[(3,.val (.int .i64 1))]) [(4096,fRow k d),(oN1,oRow odr0)] oN2) else some (.normal,odS0 k d):=by kernel_rfl
theorem od_q2:odRun F (odL 2) (odS0 k d) [4096,oN1,oN2] [1,2,3,4]=bif decide (0≤(0:Int)∧0<(d.size:Int)) then some (.normal,odS1 k d ⟨IntKind.i64.wrap (byA d 0),0,orb0⟩) else none:=by kernel_rfl
theorem od_q3:odRun F (odL 3) (odS1 k d nn) [4096,oN1,oN2,oN3] [1,2,3,4,5]=bif decide (0≤(1:Int)∧1<(d.size:Int)) then some (.normal,odS k d nn ⟨nn.seq,IntKind.i64.wrap (byA d 1),orb0⟩ []) else none:=by kernel_rfl
theorem od_q4:odRun F (odL 4) (odS k d nn o []) [4096,oN1,oN2,oN3] [1,2,3,4,5]=bif F.lo (o.code,())==0 then some (.ret,gSt 90 (odT0++[(3,.val (.int .i64 2)),(4,.ptr oN2 0),(5,.ptr oN3 0)]) [(4096,fRow k d),(oN1,oRow nn),(oN2,oRow nn),(oN3,oRow o)] oN4) else
  bif F.lo (o.code,()) != (d.size:Int) then some (.ret,gSt 90 (odT0++[(3,.val (.int .i64 1)),(4,.ptr oN2 0),(5,.ptr oN3 0)]) [(4096,fRow k d),(oN1,oRow nn),(oN2,oRow nn),(oN3,oRow o)] oN4) else some (.normal,odS k d nn o []):=by kernel_rfl
theorem od_q6:odRun F (odR 6) (odS k d nn o []) [oN1] [2,3]=some (.ret,odZ o 0 oN4):=by kernel_rfl
end
end Go.Ab
namespace Go.Ab
open Go Go.Proofs
def oN5:Nat:=4096+5*2^180
noncomputable def odC5:Code:=seqR (odL 5)
noncomputable def odCT:Code:=ifT odC5
noncomputable def odR11:Code:=seqL (seqL odCT)
noncomputable def odR20:Code:=seqR odCT
noncomputable def odOB:Code:=inB (inB (seqR (seqL odCT)))
noncomputable def odR12:Code:=seqL odOB
noncomputable def odXc:Code:=seqL (seqR odOB)
noncomputable def odB2:Code:=inB (seqL (seqR (seqR odOB)))
noncomputable def odR13:Code:=seqL odB2
noncomputable def odO14:Array Oper:=regO (seqL (seqR odB2))
noncomputable def odIB:Code:=inB (inB (seqR (seqR odB2)))
noncomputable def odT1:Code:=seqL odIB
noncomputable def odT2:Code:=seqL (seqR odIB)
noncomputable def odB4:Code:=inB (seqL (seqR (seqR odIB)))
noncomputable def odO16:Array Oper:=regO (seqL odB4)
noncomputable def odR17:Code:=seqR odB4
noncomputable def odR18:Code:=seqR (seqR (seqR odIB))
noncomputable def odR19:Code:=seqR (seqR (seqR odOB))
theorem od5_is:odL 5=.seq (seqL (odL 5)) (.cond (.tmp 49) (.seq (.seq odR11 (.block 1 (.loop odOB))) odR20) .skip):=by kernel_rfl
theorem odOB_is:odOB=.seq odR12 (.seq odXc (.seq (.block 2 (.seq odR13 (.seq (.region 14 odO14 false) (.block 3 (.loop (.seq odT1 (.seq odT2 (.seq (.block 4 (.seq (.region 16 odO16 false) odR17)) odR18)))))))) odR19)):=by kernel_rfl
def setO(o:Orb)(i:Nat)(z:Int):Orb:=match i with
 | 0=>{o with a:=z}
 | 1=>{o with e:=z}
 | 2=>{o with i:=z}
 | 3=>{o with node:=z}
 | 4=>{o with peri:=z}
 | 5=>{o with m:=z}
 | _=>{o with tk:=z}
def getO(o:Orb)(i:Nat):Int:=match i with
 | 0=>o.a
 | 1=>o.e
 | 2=>o.i
 | 3=>o.node
 | 4=>o.peri
 | 5=>o.m
 | _=>o.tk
def odPs:Con:=.row 275 [.ptr oN3 2,.ptr oN3 3,.ptr oN3 4,.ptr oN3 5,.ptr oN3 6,.ptr oN3 7,.ptr oN3 8]
def odP(k:Int)(d:ByteArray)(nn:Odr)(s c:Int)(ob:Orb)(i:Nat)(tm:List (Nat×AV)):St:=gSt 90 (odT++[(51,.slice oN4 0 7 7),(52,.val (.int .i64 7)),(53,.val (.int .i64 i))]++tm) [(4096,fRow k d),(oN1,oRow odr0),(oN2,oRow nn),(oN3,oRow ⟨s,c,ob⟩),(oN4,odPs)] oN5
def odQ(k:Int)(d:ByteArray)(nn:Odr)(s c:Int)(ob:Orb)(i:Nat)(j z:Int)(a:Option Addr)(cp:Nat)(tm:List (Nat×AV)):St:=odP k d nn s c (setO ob i z) i ([(8,.ptr oN3 (2+i)),(67,.val (.slice a 8 cp)),(68,.val (.int .i64 8)),(69,.val (.int .i64 j))]++tm)
abbrev OdK:List Nat:=[4096,oN1,oN2,oN3,oN4]
section
variable (F:OdOps) (k:Int) (d str:ByteArray) (nn o:Odr) (s c:Int) (ob:Orb) (j z v:Int) (a:Option Addr) (ad:Addr) (cp:Nat) (t:Bool) (p:Value)
theorem od14_9:sigOf odO14 9=some (.convert 9 227 (.tmp 66),some 67,true):=by kernel_rfl
theorem od14_n:List.range odO14.size=(List.range (odO14.toList.take 9).length).map (0+·)++(9 :: ((List.range (odO14.toList.drop 10).length).map (10+·)++[])):=by kernel_rfl
theorem od16_0:sigOf odO16 0=some (.indexAddr 227 (.tmp 67) (.tmp 69),some 71,true):=by kernel_rfl
theorem od16_1:sigOf odO16 1=some (.load 5 (.tmp 71),some 72,true):=by kernel_rfl
theorem od16_2:sigOf odO16 2=some (.assign (.tmp 72),some 10,true):=by kernel_rfl
theorem od16_n:List.range odO16.size=[0,1,2]:=by kernel_rfl
theorem od_c10:odRun F (seqL (odL 5)) (odS k d nn o []) [4096,oN1,oN2,oN3] [1,2,3,4,5,49]=some (.normal,odS k d nn o [(49,.val (.bool (o.code==3)))]):=by kernel_rfl
theorem od_c11:odRun F odR11 (odS k d nn ⟨s,c,ob⟩ [(49,.val (.bool true))]) OdK [1,2,3,4,5,51,52,53]=some (.normal,odP k d nn s c ob 0 []):=by kernel_rfl
theorem od_t_0:odRun F odR12 (odP k d nn s c ob 0 []) OdK [1,2,3,4,5,51,52,53,54]=some (.normal,odP k d nn s c ob 0 [(54,.val (.bool true))]):=by kernel_rfl
theorem od_tc_0:odRun F odXc (odP k d nn s c ob 0 [(54,.val (.bool true))]) OdK [1,2,3,4,5,51,52,53]=some (.normal,odP k d nn s c ob 0 []):=by kernel_rfl
theorem od_a_0:odRun F odR13 (odP k d nn s c ob 0 []) OdK [1,2,3,4,5,7,8,51,52,53]=some (.normal,odP k d nn s c ob 0 [(7,.val (.int .i64 0)),(8,.ptr oN3 2)]):=by kernel_rfl
theorem od_b_0:opsRun Tryz.prog (callN Tryz.prog {gam:=gamOr F} 4 (Bool×St)) (isSum (gamOr F)) 90 odO14 (odO14.toList.take 9) (odP k d nn s c ob 0 [(7,.val (.int .i64 0)),(8,.ptr oN3 2)]) [] (endOps OdK (restN 90 [1,2,3,4,5,8,51,52,53,66]))=bif decide (0≤(2:Int)∧(2:Int)≤10∧10≤(d.size:Int)) then some (true,odP k d nn s c ob 0 [(8,.ptr oN3 2),(66,.val (.string (d.extract 2 10)))]) else none:=by kernel_rfl
theorem od_c_0:opsRun Tryz.prog (callN Tryz.prog {gam:=gamOr F} 4 (Bool×St)) (isSum (gamOr F)) 90 odO14 (odO14.toList.drop 10) {odP k d nn s c ob 0 [(8,.ptr oN3 2),(66,.val (.string str))]with tmps:=(odP k d nn s c ob 0 [(8,.ptr oN3 2),(66,.val (.string str))]).tmps.set 67 (.val (.slice (some ad) 8 cp))} [] (endOps OdK (restN 90 [1,2,3,4,5,8,51,52,53,67,68,69]))=some (true,odQ k d nn s c ob 0 0 (getO ob 0) (some ad) cp []):=by kernel_rfl
theorem od_T_0:odRun F odT1 (odQ k d nn s c ob 0 j z a cp []) OdK [1,2,3,4,5,8,51,52,53,67,68,69,70]=some (.normal,odQ k d nn s c ob 0 j z a cp [(70,.val (.bool (decide (j<8))))]):=by kernel_rfl
theorem od_Y_0:odRun F odT2 (odQ k d nn s c ob 0 j z a cp [(70,.val (.bool true))]) OdK [1,2,3,4,5,8,51,52,53,67,68,69]=some (.normal,odQ k d nn s c ob 0 j z a cp []):=by kernel_rfl
theorem od_Z_0:odRun F odT2 (odQ k d nn s c ob 0 j z a cp [(70,.val (.bool false))]) OdK [1,2,3,4,5,51,52,53]=some (.exit 3,odP k d nn s c (setO ob 0 z) 0 []):=by kernel_rfl
theorem od_B_0:odRun F odR17 (odQ k d nn s c ob 0 j z a cp [(10,.val (.int .u8 v))]) OdK [1,2,3,4,5,8,51,52,53,67,68,69]=some (.normal,odQ k d nn s c ob 0 j (tkF z v) a cp []):=by kernel_rfl
theorem od_C_0:odRun F odR18 (odQ k d nn s c ob 0 j z a cp []) OdK [1,2,3,4,5,8,51,52,53,67,68,69]=some (.normal,odQ k d nn s c ob 0 (IntKind.i64.wrap (j+1)) z a cp []):=by kernel_rfl
theorem od_J_0:dropSt OdK (restN 90 [1,2,3,4,5,8,10,51,52,53,67,68,69]) {odQ k d nn s c ob 0 j z a cp []with tmps:=(((odQ k d nn s c ob 0 j z a cp []).tmps.set 71 (.val p)).set 72 (.val (.int .u8 v))).set 10 (.val (.int .u8 v))}=odQ k d nn s c ob 0 j z a cp [(10,.val (.int .u8 v))]:=by kernel_rfl
theorem od_d_0:odRun F odR19 (odP k d nn s c ob 0 []) OdK [1,2,3,4,5,51,52,53]=some (.normal,odP k d nn s c ob 1 []):=by kernel_rfl
theorem od_t_1:odRun F odR12 (odP k d nn s c ob 1 []) OdK [1,2,3,4,5,51,52,53,54]=some (.normal,odP k d nn s c ob 1 [(54,.val (.bool true))]):=by kernel_rfl
theorem od_tc_1:odRun F odXc (odP k d nn s c ob 1 [(54,.val (.bool true))]) OdK [1,2,3,4,5,51,52,53]=some (.normal,odP k d nn s c ob 1 []):=by kernel_rfl
theorem od_a_1:odRun F odR13 (odP k d nn s c ob 1 []) OdK [1,2,3,4,5,7,8,51,52,53]=some (.normal,odP k d nn s c ob 1 [(7,.val (.int .i64 1)),(8,.ptr oN3 3)]):=by kernel_rfl
theorem od_b_1:opsRun Tryz.prog (callN Tryz.prog {gam:=gamOr F} 4 (Bool×St)) (isSum (gamOr F)) 90 odO14 (odO14.toList.take 9) (odP k d nn s c ob 1 [(7,.val (.int .i64 1)),(8,.ptr oN3 3)]) [] (endOps OdK (restN 90 [1,2,3,4,5,8,51,52,53,66]))=bif decide (0≤(10:Int)∧(10:Int)≤18∧18≤(d.size:Int)) then some (true,odP k d nn s c ob 1 [(8,.ptr oN3 3),(66,.val (.string (d.extract 10 18)))]) else none:=by kernel_rfl
theorem od_c_1:opsRun Tryz.prog (callN Tryz.prog {gam:=gamOr F} 4 (Bool×St)) (isSum (gamOr F)) 90 odO14 (odO14.toList.drop 10) {odP k d nn s c ob 1 [(8,.ptr oN3 3),(66,.val (.string str))]with tmps:=(odP k d nn s c ob 1 [(8,.ptr oN3 3),(66,.val (.string str))]).tmps.set 67 (.val (.slice (some ad) 8 cp))} [] (endOps OdK (restN 90 [1,2,3,4,5,8,51,52,53,67,68,69]))=some (true,odQ k d nn s c ob 1 0 (getO ob 1) (some ad) cp []):=by kernel_rfl
theorem od_T_1:odRun F odT1 (odQ k d nn s c ob 1 j z a cp []) OdK [1,2,3,4,5,8,51,52,53,67,68,69,70]=some (.normal,odQ k d nn s c ob 1 j z a cp [(70,.val (.bool (decide (j<8))))]):=by kernel_rfl
theorem od_Y_1:odRun F odT2 (odQ k d nn s c ob 1 j z a cp [(70,.val (.bool true))]) OdK [1,2,3,4,5,8,51,52,53,67,68,69]=some (.normal,odQ k d nn s c ob 1 j z a cp []):=by kernel_rfl
theorem od_Z_1:odRun F odT2 (odQ k d nn s c ob 1 j z a cp [(70,.val (.bool false))]) OdK [1,2,3,4,5,51,52,53]=some (.exit 3,odP k d nn s c (setO ob 1 z) 1 []):=by kernel_rfl
theorem od_B_1:odRun F odR17 (odQ k d nn s c ob 1 j z a cp [(10,.val (.int .u8 v))]) OdK [1,2,3,4,5,8,51,52,53,67,68,69]=some (.normal,odQ k d nn s c ob 1 j (tkF z v) a cp []):=by kernel_rfl
theorem od_C_1:odRun F odR18 (odQ k d nn s c ob 1 j z a cp []) OdK [1,2,3,4,5,8,51,52,53,67,68,69]=some (.normal,odQ k d nn s c ob 1 (IntKind.i64.wrap (j+1)) z a cp []):=by kernel_rfl
theorem od_J_1:dropSt OdK (restN 90 [1,2,3,4,5,8,10,51,52,53,67,68,69]) {odQ k d nn s c ob 1 j z a cp []with tmps:=(((odQ k d nn s c ob 1 j z a cp []).tmps.set 71 (.val p)).set 72 (.val (.int .u8 v))).set 10 (.val (.int .u8 v))}=odQ k d nn s c ob 1 j z a cp [(10,.val (.int .u8 v))]:=by kernel_rfl
theorem od_d_1:odRun F odR19 (odP k d nn s c ob 1 []) OdK [1,2,3,4,5,51,52,53]=some (.normal,odP k d nn s c ob 2 []):=by kernel_rfl
theorem od_t_2:odRun F odR12 (odP k d nn s c ob 2 []) OdK [1,2,3,4,5,51,52,53,54]=some (.normal,odP k d nn s c ob 2 [(54,.val (.bool true))]):=by kernel_rfl
theorem od_tc_2:odRun F odXc (odP k d nn s c ob 2 [(54,.val (.bool true))]) OdK [1,2,3,4,5,51,52,53]=some (.normal,odP k d nn s c ob 2 []):=by kernel_rfl
theorem od_a_2:odRun F odR13 (odP k d nn s c ob 2 []) OdK [1,2,3,4,5,7,8,51,52,53]=some (.normal,odP k d nn s c ob 2 [(7,.val (.int .i64 2)),(8,.ptr oN3 4)]):=by kernel_rfl
theorem od_b_2:opsRun Tryz.prog (callN Tryz.prog {gam:=gamOr F} 4 (Bool×St)) (isSum (gamOr F)) 90 odO14 (odO14.toList.take 9) (odP k d nn s c ob 2 [(7,.val (.int .i64 2)),(8,.ptr oN3 4)]) [] (endOps OdK (restN 90 [1,2,3,4,5,8,51,52,53,66]))=bif decide (0≤(18:Int)∧(18:Int)≤26∧26≤(d.size:Int)) then some (true,odP k d nn s c ob 2 [(8,.ptr oN3 4),(66,.val (.string (d.extract 18 26)))]) else none:=by kernel_rfl
theorem od_c_2:opsRun Tryz.prog (callN Tryz.prog {gam:=gamOr F} 4 (Bool×St)) (isSum (gamOr F)) 90 odO14 (odO14.toList.drop 10) {odP k d nn s c ob 2 [(8,.ptr oN3 4),(66,.val (.string str))]with tmps:=(odP k d nn s c ob 2 [(8,.ptr oN3 4),(66,.val (.string str))]).tmps.set 67 (.val (.slice (some ad) 8 cp))} [] (endOps OdK (restN 90 [1,2,3,4,5,8,51,52,53,67,68,69]))=some (true,odQ k d nn s c ob 2 0 (getO ob 2) (some ad) cp []):=by kernel_rfl
theorem od_T_2:odRun F odT1 (odQ k d nn s c ob 2 j z a cp []) OdK [1,2,3,4,5,8,51,52,53,67,68,69,70]=some (.normal,odQ k d nn s c ob 2 j z a cp [(70,.val (.bool (decide (j<8))))]):=by kernel_rfl
theorem od_Y_2:odRun F odT2 (odQ k d nn s c ob 2 j z a cp [(70,.val (.bool true))]) OdK [1,2,3,4,5,8,51,52,53,67,68,69]=some (.normal,odQ k d nn s c ob 2 j z a cp []):=by kernel_rfl
theorem od_Z_2:odRun F odT2 (odQ k d nn s c ob 2 j z a cp [(70,.val (.bool false))]) OdK [1,2,3,4,5,51,52,53]=some (.exit 3,odP k d nn s c (setO ob 2 z) 2 []):=by kernel_rfl
theorem od_B_2:odRun F odR17 (odQ k d nn s c ob 2 j z a cp [(10,.val (.int .u8 v))]) OdK [1,2,3,4,5,8,51,52,53,67,68,69]=some (.normal,odQ k d nn s c ob 2 j (tkF z v) a cp []):=by kernel_rfl
theorem od_C_2:odRun F odR18 (odQ k d nn s c ob 2 j z a cp []) OdK [1,2,3,4,5,8,51,52,53,67,68,69]=some (.normal,odQ k d nn s c ob 2 (IntKind.i64.wrap (j+1)) z a cp []):=by kernel_rfl
theorem od_J_2:dropSt OdK (restN 90 [1,2,3,4,5,8,10,51,52,53,67,68,69]) {odQ k d nn s c ob 2 j z a cp []with tmps:=(((odQ k d nn s c ob 2 j z a cp []).tmps.set 71 (.val p)).set 72 (.val (.int .u8 v))).set 10 (.val (.int .u8 v))}=odQ k d nn s c ob 2 j z a cp [(10,.val (.int .u8 v))]:=by kernel_rfl
theorem od_d_2:odRun F odR19 (odP k d nn s c ob 2 []) OdK [1,2,3,4,5,51,52,53]=some (.normal,odP k d nn s c ob 3 []):=by kernel_rfl
theorem od_t_3:odRun F odR12 (odP k d nn s c ob 3 []) OdK [1,2,3,4,5,51,52,53,54]=some (.normal,odP k d nn s c ob 3 [(54,.val (.bool true))]):=by kernel_rfl
theorem od_tc_3:odRun F odXc (odP k d nn s c ob 3 [(54,.val (.bool true))]) OdK [1,2,3,4,5,51,52,53]=some (.normal,odP k d nn s c ob 3 []):=by kernel_rfl
theorem od_a_3:odRun F odR13 (odP k d nn s c ob 3 []) OdK [1,2,3,4,5,7,8,51,52,53]=some (.normal,odP k d nn s c ob 3 [(7,.val (.int .i64 3)),(8,.ptr oN3 5)]):=by kernel_rfl
theorem od_b_3:opsRun Tryz.prog (callN Tryz.prog {gam:=gamOr F} 4 (Bool×St)) (isSum (gamOr F)) 90 odO14 (odO14.toList.take 9) (odP k d nn s c ob 3 [(7,.val (.int .i64 3)),(8,.ptr oN3 5)]) [] (endOps OdK (restN 90 [1,2,3,4,5,8,51,52,53,66]))=bif decide (0≤(26:Int)∧(26:Int)≤34∧34≤(d.size:Int)) then some (true,odP k d nn s c ob 3 [(8,.ptr oN3 5),(66,.val (.string (d.extract 26 34)))]) else none:=by kernel_rfl
theorem od_c_3:opsRun Tryz.prog (callN Tryz.prog {gam:=gamOr F} 4 (Bool×St)) (isSum (gamOr F)) 90 odO14 (odO14.toList.drop 10) {odP k d nn s c ob 3 [(8,.ptr oN3 5),(66,.val (.string str))]with tmps:=(odP k d nn s c ob 3 [(8,.ptr oN3 5),(66,.val (.string str))]).tmps.set 67 (.val (.slice (some ad) 8 cp))} [] (endOps OdK (restN 90 [1,2,3,4,5,8,51,52,53,67,68,69]))=some (true,odQ k d nn s c ob 3 0 (getO ob 3) (some ad) cp []):=by kernel_rfl
theorem od_T_3:odRun F odT1 (odQ k d nn s c ob 3 j z a cp []) OdK [1,2,3,4,5,8,51,52,53,67,68,69,70]=some (.normal,odQ k d nn s c ob 3 j z a cp [(70,.val (.bool (decide (j<8))))]):=by kernel_rfl
theorem od_Y_3:odRun F odT2 (odQ k d nn s c ob 3 j z a cp [(70,.val (.bool true))]) OdK [1,2,3,4,5,8,51,52,53,67,68,69]=some (.normal,odQ k d nn s c ob 3 j z a cp []):=by kernel_rfl
theorem od_Z_3:odRun F odT2 (odQ k d nn s c ob 3 j z a cp [(70,.val (.bool false))]) OdK [1,2,3,4,5,51,52,53]=some (.exit 3,odP k d nn s c (setO ob 3 z) 3 []):=by kernel_rfl
theorem od_B_3:odRun F odR17 (odQ k d nn s c ob 3 j z a cp [(10,.val (.int .u8 v))]) OdK [1,2,3,4,5,8,51,52,53,67,68,69]=some (.normal,odQ k d nn s c ob 3 j (tkF z v) a cp []):=by kernel_rfl
theorem od_C_3:odRun F odR18 (odQ k d nn s c ob 3 j z a cp []) OdK [1,2,3,4,5,8,51,52,53,67,68,69]=some (.normal,odQ k d nn s c ob 3 (IntKind.i64.wrap (j+1)) z a cp []):=by kernel_rfl
theorem od_J_3:dropSt OdK (restN 90 [1,2,3,4,5,8,10,51,52,53,67,68,69]) {odQ k d nn s c ob 3 j z a cp []with tmps:=(((odQ k d nn s c ob 3 j z a cp []).tmps.set 71 (.val p)).set 72 (.val (.int .u8 v))).set 10 (.val (.int .u8 v))}=odQ k d nn s c ob 3 j z a cp [(10,.val (.int .u8 v))]:=by kernel_rfl
theorem od_d_3:odRun F odR19 (odP k d nn s c ob 3 []) OdK [1,2,3,4,5,51,52,53]=some (.normal,odP k d nn s c ob 4 []):=by kernel_rfl
theorem od_t_4:odRun F odR12 (odP k d nn s c ob 4 []) OdK [1,2,3,4,5,51,52,53,54]=some (.normal,odP k d nn s c ob 4 [(54,.val (.bool true))]):=by kernel_rfl
theorem od_tc_4:odRun F odXc (odP k d nn s c ob 4 [(54,.val (.bool true))]) OdK [1,2,3,4,5,51,52,53]=some (.normal,odP k d nn s c ob 4 []):=by kernel_rfl
theorem od_a_4:odRun F odR13 (odP k d nn s c ob 4 []) OdK [1,2,3,4,5,7,8,51,52,53]=some (.normal,odP k d nn s c ob 4 [(7,.val (.int .i64 4)),(8,.ptr oN3 6)]):=by kernel_rfl
theorem od_b_4:opsRun Tryz.prog (callN Tryz.prog {gam:=gamOr F} 4 (Bool×St)) (isSum (gamOr F)) 90 odO14 (odO14.toList.take 9) (odP k d nn s c ob 4 [(7,.val (.int .i64 4)),(8,.ptr oN3 6)]) [] (endOps OdK (restN 90 [1,2,3,4,5,8,51,52,53,66]))=bif decide (0≤(34:Int)∧(34:Int)≤42∧42≤(d.size:Int)) then some (true,odP k d nn s c ob 4 [(8,.ptr oN3 6),(66,.val (.string (d.extract 34 42)))]) else none:=by kernel_rfl
theorem od_c_4:opsRun Tryz.prog (callN Tryz.prog {gam:=gamOr F} 4 (Bool×St)) (isSum (gamOr F)) 90 odO14 (odO14.toList.drop 10) {odP k d nn s c ob 4 [(8,.ptr oN3 6),(66,.val (.string str))]with tmps:=(odP k d nn s c ob 4 [(8,.ptr oN3 6),(66,.val (.string str))]).tmps.set 67 (.val (.slice (some ad) 8 cp))} [] (endOps OdK (restN 90 [1,2,3,4,5,8,51,52,53,67,68,69]))=some (true,odQ k d nn s c ob 4 0 (getO ob 4) (some ad) cp []):=by kernel_rfl
theorem od_T_4:odRun F odT1 (odQ k d nn s c ob 4 j z a cp []) OdK [1,2,3,4,5,8,51,52,53,67,68,69,70]=some (.normal,odQ k d nn s c ob 4 j z a cp [(70,.val (.bool (decide (j<8))))]):=by kernel_rfl
theorem od_Y_4:odRun F odT2 (odQ k d nn s c ob 4 j z a cp [(70,.val (.bool true))]) OdK [1,2,3,4,5,8,51,52,53,67,68,69]=some (.normal,odQ k d nn s c ob 4 j z a cp []):=by kernel_rfl
theorem od_Z_4:odRun F odT2 (odQ k d nn s c ob 4 j z a cp [(70,.val (.bool false))]) OdK [1,2,3,4,5,51,52,53]=some (.exit 3,odP k d nn s c (setO ob 4 z) 4 []):=by kernel_rfl
theorem od_B_4:odRun F odR17 (odQ k d nn s c ob 4 j z a cp [(10,.val (.int .u8 v))]) OdK [1,2,3,4,5,8,51,52,53,67,68,69]=some (.normal,odQ k d nn s c ob 4 j (tkF z v) a cp []):=by kernel_rfl
theorem od_C_4:odRun F odR18 (odQ k d nn s c ob 4 j z a cp []) OdK [1,2,3,4,5,8,51,52,53,67,68,69]=some (.normal,odQ k d nn s c ob 4 (IntKind.i64.wrap (j+1)) z a cp []):=by kernel_rfl
theorem od_J_4:dropSt OdK (restN 90 [1,2,3,4,5,8,10,51,52,53,67,68,69]) {odQ k d nn s c ob 4 j z a cp []with tmps:=(((odQ k d nn s c ob 4 j z a cp []).tmps.set 71 (.val p)).set 72 (.val (.int .u8 v))).set 10 (.val (.int .u8 v))}=odQ k d nn s c ob 4 j z a cp [(10,.val (.int .u8 v))]:=by kernel_rfl
theorem od_d_4:odRun F odR19 (odP k d nn s c ob 4 []) OdK [1,2,3,4,5,51,52,53]=some (.normal,odP k d nn s c ob 5 []):=by kernel_rfl
theorem od_t_5:odRun F odR12 (odP k d nn s c ob 5 []) OdK [1,2,3,4,5,51,52,53,54]=some (.normal,odP k d nn s c ob 5 [(54,.val (.bool true))]):=by kernel_rfl
theorem od_tc_5:odRun F odXc (odP k d nn s c ob 5 [(54,.val (.bool true))]) OdK [1,2,3,4,5,51,52,53]=some (.normal,odP k d nn s c ob 5 []):=by kernel_rfl
theorem od_a_5:odRun F odR13 (odP k d nn s c ob 5 []) OdK [1,2,3,4,5,7,8,51,52,53]=some (.normal,odP k d nn s c ob 5 [(7,.val (.int .i64 5)),(8,.ptr oN3 7)]):=by kernel_rfl
theorem od_b_5:opsRun Tryz.prog (callN Tryz.prog {gam:=gamOr F} 4 (Bool×St)) (isSum (gamOr F)) 90 odO14 (odO14.toList.take 9) (odP k d nn s c ob 5 [(7,.val (.int .i64 5)),(8,.ptr oN3 7)]) [] (endOps OdK (restN 90 [1,2,3,4,5,8,51,52,53,66]))=bif decide (0≤(42:Int)∧(42:Int)≤50∧50≤(d.size:Int)) then some (true,odP k d nn s c ob 5 [(8,.ptr oN3 7),(66,.val (.string (d.extract 42 50)))]) else none:=by kernel_rfl
theorem od_c_5:opsRun Tryz.prog (callN Tryz.prog {gam:=gamOr F} 4 (Bool×St)) (isSum (gamOr F)) 90 odO14 (odO14.toList.drop 10) {odP k d nn s c ob 5 [(8,.ptr oN3 7),(66,.val (.string str))]with tmps:=(odP k d nn s c ob 5 [(8,.ptr oN3 7),(66,.val (.string str))]).tmps.set 67 (.val (.slice (some ad) 8 cp))} [] (endOps OdK (restN 90 [1,2,3,4,5,8,51,52,53,67,68,69]))=some (true,odQ k d nn s c ob 5 0 (getO ob 5) (some ad) cp []):=by kernel_rfl
theorem od_T_5:odRun F odT1 (odQ k d nn s c ob 5 j z a cp []) OdK [1,2,3,4,5,8,51,52,53,67,68,69,70]=some (.normal,odQ k d nn s c ob 5 j z a cp [(70,.val (.bool (decide (j<8))))]):=by kernel_rfl
theorem od_Y_5:odRun F odT2 (odQ k d nn s c ob 5 j z a cp [(70,.val (.bool true))]) OdK [1,2,3,4,5,8,51,52,53,67,68,69]=some (.normal,odQ k d nn s c ob 5 j z a cp []):=by kernel_rfl
theorem od_Z_5:odRun F odT2 (odQ k d nn s c ob 5 j z a cp [(70,.val (.bool false))]) OdK [1,2,3,4,5,51,52,53]=some (.exit 3,odP k d nn s c (setO ob 5 z) 5 []):=by kernel_rfl
theorem od_B_5:odRun F odR17 (odQ k d nn s c ob 5 j z a cp [(10,.val (.int .u8 v))]) OdK [1,2,3,4,5,8,51,52,53,67,68,69]=some (.normal,odQ k d nn s c ob 5 j (tkF z v) a cp []):=by kernel_rfl
theorem od_C_5:odRun F odR18 (odQ k d nn s c ob 5 j z a cp []) OdK [1,2,3,4,5,8,51,52,53,67,68,69]=some (.normal,odQ k d nn s c ob 5 (IntKind.i64.wrap (j+1)) z a cp []):=by kernel_rfl
theorem od_J_5:dropSt OdK (restN 90 [1,2,3,4,5,8,10,51,52,53,67,68,69]) {odQ k d nn s c ob 5 j z a cp []with tmps:=(((odQ k d nn s c ob 5 j z a cp []).tmps.set 71 (.val p)).set 72 (.val (.int .u8 v))).set 10 (.val (.int .u8 v))}=odQ k d nn s c ob 5 j z a cp [(10,.val (.int .u8 v))]:=by kernel_rfl
theorem od_d_5:odRun F odR19 (odP k d nn s c ob 5 []) OdK [1,2,3,4,5,51,52,53]=some (.normal,odP k d nn s c ob 6 []):=by kernel_rfl
theorem od_t_6:odRun F odR12 (odP k d nn s c ob 6 []) OdK [1,2,3,4,5,51,52,53,54]=some (.normal,odP k d nn s c ob 6 [(54,.val (.bool true))]):=by kernel_rfl
theorem od_tc_6:odRun F odXc (odP k d nn s c ob 6 [(54,.val (.bool true))]) OdK [1,2,3,4,5,51,52,53]=some (.normal,odP k d nn s c ob 6 []):=by kernel_rfl
theorem od_a_6:odRun F odR13 (odP k d nn s c ob 6 []) OdK [1,2,3,4,5,7,8,51,52,53]=some (.normal,odP k d nn s c ob 6 [(7,.val (.int .i64 6)),(8,.ptr oN3 8)]):=by kernel_rfl
theorem od_b_6:opsRun Tryz.prog (callN Tryz.prog {gam:=gamOr F} 4 (Bool×St)) (isSum (gamOr F)) 90 odO14 (odO14.toList.take 9) (odP k d nn s c ob 6 [(7,.val (.int .i64 6)),(8,.ptr oN3 8)]) [] (endOps OdK (restN 90 [1,2,3,4,5,8,51,52,53,66]))=bif decide (0≤(50:Int)∧(50:Int)≤58∧58≤(d.size:Int)) then some (true,odP k d nn s c ob 6 [(8,.ptr oN3 8),(66,.val (.string (d.extract 50 58)))]) else none:=by kernel_rfl
theorem od_c_6:opsRun Tryz.prog (callN Tryz.prog {gam:=gamOr F} 4 (Bool×St)) (isSum (gamOr F)) 90 odO14 (odO14.toList.drop 10) {odP k d nn s c ob 6 [(8,.ptr oN3 8),(66,.val (.string str))]with tmps:=(odP k d nn s c ob 6 [(8,.ptr oN3 8),(66,.val (.string str))]).tmps.set 67 (.val (.slice (some ad) 8 cp))} [] (endOps OdK (restN 90 [1,2,3,4,5,8,51,52,53,67,68,69]))=some (true,odQ k d nn s c ob 6 0 (getO ob 6) (some ad) cp []):=by kernel_rfl
theorem od_T_6:odRun F odT1 (odQ k d nn s c ob 6 j z a cp []) OdK [1,2,3,4,5,8,51,52,53,67,68,69,70]=some (.normal,odQ k d nn s c ob 6 j z a cp [(70,.val (.bool (decide (j<8))))]):=by kernel_rfl
theorem od_Y_6:odRun F odT2 (odQ k d nn s c ob 6 j z a cp [(70,.val (.bool true))]) OdK [1,2,3,4,5,8,51,52,53,67,68,69]=some (.normal,odQ k d nn s c ob 6 j z a cp []):=by kernel_rfl
theorem od_Z_6:odRun F odT2 (odQ k d nn s c ob 6 j z a cp [(70,.val (.bool false))]) OdK [1,2,3,4,5,51,52,53]=some (.exit 3,odP k d nn s c (setO ob 6 z) 6 []):=by kernel_rfl
theorem od_B_6:odRun F odR17 (odQ k d nn s c ob 6 j z a cp [(10,.val (.int .u8 v))]) OdK [1,2,3,4,5,8,51,52,53,67,68,69]=some (.normal,odQ k d nn s c ob 6 j (tkF z v) a cp []):=by kernel_rfl
theorem od_C_6:odRun F odR18 (odQ k d nn s c ob 6 j z a cp []) OdK [1,2,3,4,5,8,51,52,53,67,68,69]=some (.normal,odQ k d nn s c ob 6 (IntKind.i64.wrap (j+1)) z a cp []):=by kernel_rfl
theorem od_J_6:dropSt OdK (restN 90 [1,2,3,4,5,8,10,51,52,53,67,68,69]) {odQ k d nn s c ob 6 j z a cp []with tmps:=(((odQ k d nn s c ob 6 j z a cp []).tmps.set 71 (.val p)).set 72 (.val (.int .u8 v))).set 10 (.val (.int .u8 v))}=odQ k d nn s c ob 6 j z a cp [(10,.val (.int .u8 v))]:=by kernel_rfl
theorem od_d_6:odRun F odR19 (odP k d nn s c ob 6 []) OdK [1,2,3,4,5,51,52,53]=some (.normal,odP k d nn s c ob 7 []):=by kernel_rfl
theorem od_t_7:odRun F odR12 (odP k d nn s c ob 7 []) OdK [1,2,3,4,5,51,52,53,54]=some (.normal,odP k d nn s c ob 7 [(54,.val (.bool false))]):=by kernel_rfl
theorem od_tc_7:odRun F odXc (odP k d nn s c ob 7 [(54,.val (.bool false))]) [4096,oN1,oN2,oN3] [1,2,3,4,5]=some (.exit 1,{odS k d nn ⟨s,c,ob⟩ []with lo:=oN5}):=by kernel_rfl
theorem od_e:odRun F odR20 {odS k d nn ⟨s,c,ob⟩ []with lo:=oN5} [4096,oN1,oN2,oN3] [1,2,3,4,5]=bif !F.rt (ob,()) then some (.ret,gSt 90 (odT0++[(3,.val (.int .i64 3)),(4,.ptr oN2 0),(5,.ptr oN3 0)]) [(4096,fRow k d),(oN1,oRow nn),(oN2,oRow nn),(oN3,oRow ⟨s,c,ob⟩)] oN5) else some (.normal,{odS k d nn ⟨s,c,ob⟩ []with lo:=oN5}):=by kernel_rfl
theorem od_q6':odRun F (odR 6) {odS k d nn o []with lo:=oN5} [oN1] [2,3]=some (.ret,odZ o 0 oN5):=by kernel_rfl
theorem odQ_len(i:Nat):(odQ k d nn s c ob i j z a cp []).tmps.length=90:=by kernel_rfl
theorem odP_len(i:Nat)(tm:List (Nat×AV)):(odP k d nn s c ob i tm).tmps.length=90:=by kernel_rfl
end
end Go.Ab
namespace Go.Ab
open Go Go.Proofs
theorem to7{i:Nat}(h:i<7):i=0∨i=1∨i=2∨i=3∨i=4∨i=5∨i=6:=by omega
noncomputable def odLoop(k:Int)(d:ByteArray)(nn:Odr)(s c:Int)(ob:Orb)(i:Nat):BytesLoop Tryz.prog 90 Int 8 where
 id:=3
 id2:=4
 idR:=16
 T1:=odT1
 T2:=odT2
 rO:=odO16
 BD:=odR17
 INC:=odR18
 ty:=227
 te:=5
 tS:=67
 tI:=69
 d1:=71
 d2:=72
 d3:=10
 I j z a cp:=odQ k d nn s c ob i j z a cp []
 I1 j z a cp t:=odQ k d nn s c ob i j z a cp [(70,.val (.bool t))]
 J j z a cp v:=odQ k d nn s c ob i j z a cp [(10,.val (.int .u8 v))]
 K j z a cp:=odQ k d nn s c ob i j z a cp []
 E z:=odP k d nn s c (setO ob i z) i []
 F:=tkF
section
variable {F:OdOps} (hG:GamOk Tryz.prog (gamOr F)) (k:Int) (d:ByteArray) (nn:Odr) (s c:Int) (ob:Orb)
include hG
theorem odLoop_ok{i:Nat}(hi:i<7):(odLoop k d nn s c ob i).Ok where
 r0:=od16_0
 r1:=od16_1
 r2:=od16_2
 rn:=od16_n
 u:=v38
 ue:=zv5
 s1:=j5
 b1:=by show 71<90;omega
 b2:=by show 72<90;omega
 b3:=by show 10<90;omega
 n1:=by show 71≠72;omega
 len j z a cp:=odQ_len k d nn s c ob j z a cp i
 hS j z a cp:=by show (odQ k d nn s c ob i j z a cp []).tmps[67]?=_;rfl
 hI j z a cp:=by show (odQ k d nn s c ob i j z a cp []).tmps[69]?=_;rfl
 hJ j z a cp p v:=⟨by
  show Wk (odQ k d nn s c ob i j z a cp [(10,.val (.int .u8 v))]).u _
  have e:dropSt OdK (restN 90 [1,2,3,4,5,8,10,51,52,53,67,68,69]) {odQ k d nn s c ob i j z a cp []with tmps:=(((odQ k d nn s c ob i j z a cp []).tmps.set 71 (.val p)).set 72 (.val (.int .u8 v))).set 10 (.val (.int .u8 v))}=odQ k d nn s c ob i j z a cp [(10,.val (.int .u8 v))]:=by
   rcases to7 hi with rfl | rfl | rfl | rfl | rfl | rfl | rfl
   ·exact od_J_0 ..
   ·exact od_J_1 ..
   ·exact od_J_2 ..
   ·exact od_J_3 ..
   ·exact od_J_4 ..
   ·exact od_J_5 ..
   ·exact od_J_6 ..
  rw[← e]
  exact dropSt_wk _ _ _,Nat.le_refl _,Nat.le_refl _⟩
 hT j z a cp:=gRun_runs (E:={gam:=gamOr F}) hG (keep:=OdK) (ts:=[1,2,3,4,5,8,51,52,53,67,68,69,70]) (by
  rcases to7 hi with rfl | rfl | rfl | rfl | rfl | rfl | rfl
  ·exact od_T_0 ..
  ·exact od_T_1 ..
  ·exact od_T_2 ..
  ·exact od_T_3 ..
  ·exact od_T_4 ..
  ·exact od_T_5 ..
  ·exact od_T_6 ..)
 hY j z a cp:=gRun_runs (E:={gam:=gamOr F}) hG (keep:=OdK) (ts:=[1,2,3,4,5,8,51,52,53,67,68,69]) (by
  rcases to7 hi with rfl | rfl | rfl | rfl | rfl | rfl | rfl
  ·exact od_Y_0 ..
  ·exact od_Y_1 ..
  ·exact od_Y_2 ..
  ·exact od_Y_3 ..
  ·exact od_Y_4 ..
  ·exact od_Y_5 ..
  ·exact od_Y_6 ..)
 hX j z a cp:=gRun_runs (E:={gam:=gamOr F}) hG (keep:=OdK) (ts:=[1,2,3,4,5,51,52,53]) (by
  rcases to7 hi with rfl | rfl | rfl | rfl | rfl | rfl | rfl
  ·exact od_Z_0 ..
  ·exact od_Z_1 ..
  ·exact od_Z_2 ..
  ·exact od_Z_3 ..
  ·exact od_Z_4 ..
  ·exact od_Z_5 ..
  ·exact od_Z_6 ..)
 hB j z a cp v:=gRun_runs (E:={gam:=gamOr F}) hG (keep:=OdK) (ts:=[1,2,3,4,5,8,51,52,53,67,68,69]) (by
  rcases to7 hi with rfl | rfl | rfl | rfl | rfl | rfl | rfl
  ·exact od_B_0 ..
  ·exact od_B_1 ..
  ·exact od_B_2 ..
  ·exact od_B_3 ..
  ·exact od_B_4 ..
  ·exact od_B_5 ..
  ·exact od_B_6 ..)
 hC j z a cp hj:=by
  have e:IntKind.i64.wrap ((j:Int)+1)=((j+1:Nat):Int):=by rw[wrapM];omega
  have h:odRun F odR18 (odQ k d nn s c ob i j z a cp []) OdK [1,2,3,4,5,8,51,52,53,67,68,69]=some (.normal,odQ k d nn s c ob i (IntKind.i64.wrap (j+1)) z a cp []):=by
   rcases to7 hi with rfl | rfl | rfl | rfl | rfl | rfl | rfl
   ·exact od_C_0 ..
   ·exact od_C_1 ..
   ·exact od_C_2 ..
   ·exact od_C_3 ..
   ·exact od_C_4 ..
   ·exact od_C_5 ..
   ·exact od_C_6 ..
  rw[e]at h
  exact gRun_runs (E:={gam:=gamOr F}) hG h
omit hG in
theorem od_b{i:Nat}(hi:i<7)(hd:58≤d.size):opsRun Tryz.prog (callN Tryz.prog {gam:=gamOr F} 4 (Bool×St)) (isSum (gamOr F)) 90 odO14 (odO14.toList.take 9) (odP k d nn s c ob i [(7,.val (.int .i64 i)),(8,.ptr oN3 (2+i))]) [] (endOps OdK (restN 90 [1,2,3,4,5,8,51,52,53,66])) =
  some (true,odP k d nn s c ob i [(8,.ptr oN3 (2+i)),(66,.val (.string (d.extract (2+8*i) (10+8*i))))]):=by
 rcases to7 hi with rfl | rfl | rfl | rfl | rfl | rfl | rfl
 ·have h:=od_b_0 F k d nn s c ob
  rw[decide_eq_true (by omega),cond_true]at h
  exact h
 ·have h:=od_b_1 F k d nn s c ob
  rw[decide_eq_true (by omega),cond_true]at h
  exact h
 ·have h:=od_b_2 F k d nn s c ob
  rw[decide_eq_true (by omega),cond_true]at h
  exact h
 ·have h:=od_b_3 F k d nn s c ob
  rw[decide_eq_true (by omega),cond_true]at h
  exact h
 ·have h:=od_b_4 F k d nn s c ob
  rw[decide_eq_true (by omega),cond_true]at h
  exact h
 ·have h:=od_b_5 F k d nn s c ob
  rw[decide_eq_true (by omega),cond_true]at h
  exact h
 ·have h:=od_b_6 F k d nn s c ob
  rw[decide_eq_true (by omega),cond_true]at h
  exact h
omit hG in
theorem od_c{i:Nat}(hi:i<7)(str:ByteArray)(ad:Addr)(cp:Nat):opsRun Tryz.prog (callN Tryz.prog {gam:=gamOr F} 4 (Bool×St)) (isSum (gamOr F)) 90 odO14 (odO14.toList.drop 10) {odP k d nn s c ob i [(8,.ptr oN3 (2+i)),(66,.val (.string str))]with tmps:=(odP k d nn s c ob i [(8,.ptr oN3 (2+i)),(66,.val (.string str))]).tmps.set 67 (.val (.slice (some ad) 8 cp))} [] (endOps OdK (restN 90 [1,2,3,4,5,8,51,52,53,67,68,69])) =
  some (true,odQ k d nn s c ob i 0 (getO ob i) (some ad) cp []):=by
 rcases to7 hi with rfl | rfl | rfl | rfl | rfl | rfl | rfl
 ·exact od_c_0 ..
 ·exact od_c_1 ..
 ·exact od_c_2 ..
 ·exact od_c_3 ..
 ·exact od_c_4 ..
 ·exact od_c_5 ..
 ·exact od_c_6 ..
def ordR(d:ByteArray)(i:Nat)(ob:Orb):Orb:=setO ob i ((d.extract (2+8*i) (10+8*i)).data.toList.foldl (fun z b=>tkF z b.toNat) (getO ob i))
theorem od_round{i:Nat}(hi:i<7)(hd:58≤d.size):RunsTo Tryz.prog 90 odOB (odP k d nn s c ob i []) .normal (odP k d nn s c (ordR d i ob) (i+1) []):=by
 have ht:odRun F odR12 (odP k d nn s c ob i []) OdK [1,2,3,4,5,51,52,53,54]=some (.normal,odP k d nn s c ob i [(54,.val (.bool true))]):=by
  rcases to7 hi with rfl | rfl | rfl | rfl | rfl | rfl | rfl
  ·exact od_t_0 ..
  ·exact od_t_1 ..
  ·exact od_t_2 ..
  ·exact od_t_3 ..
  ·exact od_t_4 ..
  ·exact od_t_5 ..
  ·exact od_t_6 ..
 have hx:odRun F odXc (odP k d nn s c ob i [(54,.val (.bool true))]) OdK [1,2,3,4,5,51,52,53]=some (.normal,odP k d nn s c ob i []):=by
  rcases to7 hi with rfl | rfl | rfl | rfl | rfl | rfl | rfl
  ·exact od_tc_0 ..
  ·exact od_tc_1 ..
  ·exact od_tc_2 ..
  ·exact od_tc_3 ..
  ·exact od_tc_4 ..
  ·exact od_tc_5 ..
  ·exact od_tc_6 ..
 have ha:odRun F odR13 (odP k d nn s c ob i []) OdK [1,2,3,4,5,7,8,51,52,53]=some (.normal,odP k d nn s c ob i [(7,.val (.int .i64 i)),(8,.ptr oN3 (2+i))]):=by
  rcases to7 hi with rfl | rfl | rfl | rfl | rfl | rfl | rfl
  ·exact od_a_0 ..
  ·exact od_a_1 ..
  ·exact od_a_2 ..
  ·exact od_a_3 ..
  ·exact od_a_4 ..
  ·exact od_a_5 ..
  ·exact od_a_6 ..
 have hd2:∀ob',odRun F odR19 (odP k d nn s c ob' i []) OdK [1,2,3,4,5,51,52,53]=some (.normal,odP k d nn s c ob' (i+1) []):=by
  intro ob'
  rcases to7 hi with rfl | rfl | rfl | rfl | rfl | rfl | rfl
  ·exact od_d_0 ..
  ·exact od_d_1 ..
  ·exact od_d_2 ..
  ·exact od_d_3 ..
  ·exact od_d_4 ..
  ·exact od_d_5 ..
  ·exact od_d_6 ..
 rw[odOB_is]
 refine .seq (gRun_runs (E:={gam:=gamOr F}) hG ht) (.seq (gRun_runs (E:={gam:=gamOr F}) hG hx) (.seq (.block (.seq (gRun_runs (E:={gam:=gamOr F}) hG ha) ?_) (.inl rfl)) (gRun_runs (E:={gam:=gamOr F}) hG (hd2 _))))
 intro w0 own σ0 lo0 hi0 act w hst Q hQ
 have hsz:(d.extract (2+8*i) (10+8*i)).size=8:=by rw[ByteArray.size_extract];omega
 refine wp_seq (wp_region ?_)
 rw[od14_n]
 refine ops_fit (callN_ok (E:={gam:=gamOr F}) hG 4 _) OdK _ (od_b (F:=F) k d nn s c ob hi hd) (fun _ _ hj=>take_at hj) hst _ fun a1 w1 h1=>?_
 refine conv_else od14_9 (by omega) (odP_len ..) h1 (str:=d.extract (2+8*i) (10+8*i)) rfl v9 v38 zv5 _ fun a2 w2 own1 σ1 r cp hr ho hcell _ h2 back=>?_
 rw[hsz]at h2 hcell
 refine ops_fit (callN_ok (E:={gam:=gamOr F}) hG 4 _) OdK _ (od_c (F:=F) k d nn s c ob hi _ ⟨r,0,none⟩ cp) (fun _ _ hj=>drop_at hj) h2 [] fun a3 w3 h3=>?_
 refine BytesLoop.run (odLoop_ok hG k d nn s c ob hi) (l:=(d.extract (2+8*i) (10+8*i)).data.toList) hsz hr ho hcell (getO ob i) h3 fun a4 w4 h4=>?_
 exact hQ a4 w4 (back _ _ _ h4)
end
end Go.Ab
namespace Go.Ab
open Go Go.Proofs
theorem od_res0(k:Int)(d:ByteArray)(e:Int):resA Tryz.prog (gSt 90 (odT0++[(3,.val (.int .i64 e))]) [(4096,fRow k d),(oN1,oRow odr0)] oN2) Tryz.f211.results.toList=some [.val (Cod.enc odr0),.val (.int .i64 e)]:=by kernel_rfl
theorem od_res1(k:Int)(d:ByteArray)(e:Int)(nn o:Odr)(lo:Nat):resA Tryz.prog (gSt 90 (odT0++[(3,.val (.int .i64 e)),(4,.ptr oN2 0),(5,.ptr oN3 0)]) [(4096,fRow k d),(oN1,oRow nn),(oN2,oRow nn),(oN3,oRow o)] lo) Tryz.f211.results.toList=some [.val (Cod.enc nn),.val (.int .i64 e)]:=by kernel_rfl
theorem od_resZ(o:Odr)(e:Int)(lo:Nat):resA Tryz.prog (odZ o e lo) Tryz.f211.results.toList=some [.val (Cod.enc o),.val (.int .i64 e)]:=by kernel_rfl
def odNn(d:ByteArray):Odr:=⟨IntKind.i64.wrap (byA d 0),0,orb0⟩
def odCd(d:ByteArray):Int:=IntKind.i64.wrap (byA d 1)
def odOb(d:ByteArray):Orb:=iterF (ordR d) 0 7 orb0
def ordO(F:OdOps)(p:Fr×Unit):Two Odr Int :=
 bif p.1.kind != 16 then ⟨odr0,1⟩ else bif decide ((p.1.data.size:Int)<2) then ⟨odr0,1⟩ else
 bif F.lo (odCd p.1.data,())==0 then ⟨odNn p.1.data,2⟩ else bif F.lo (odCd p.1.data,()) != (p.1.data.size:Int) then ⟨odNn p.1.data,1⟩ else
 bif odCd p.1.data==3 then bif !F.rt (odOb p.1.data,()) then ⟨odNn p.1.data,3⟩ else ⟨⟨(odNn p.1.data).seq,odCd p.1.data,odOb p.1.data⟩,0⟩ else ⟨⟨(odNn p.1.data).seq,odCd p.1.data,orb0⟩,0⟩
section
variable {F:OdOps} (hG:GamOk Tryz.prog (gamOr F)) (hF:F.lo (3,())=58) (k:Int) (d:ByteArray)
include hG
theorem od_loop(nn:Odr)(s c:Int)(hd:58≤d.size):RunsTo Tryz.prog 90 (.block 1 (.loop odOB)) (odP k d nn s c orb0 0 []) .normal {odS k d nn ⟨s,c,odOb d⟩ []with lo:=oN5}:=by
 refine RunsTo.rounds (id:=1) (c:=odOB) 7 (fun i ob=>odP k d nn s c ob i []) (fun ob=>{odS k d nn ⟨s,c,ob⟩ []with lo:=oN5}) (ordR d) (fun i ob hi=>od_round hG k d nn s c ob hi hd) (fun ob=>?_) orb0
 rw[odOB_is]
 exact .seq (gRun_runs (E:={gam:=gamOr F}) hG (od_t_7 F k d nn s c ob)) (RunsTo.seqX (gRun_runs (E:={gam:=gamOr F}) hG (od_tc_7 F k d nn s c ob)))
omit hG in
theorem RunsTo.condT{P:Program}{N:Nat}{t:Nat}{c e:Code}{s s':St}{x:Ex}(ht:s.tmps[t]?=some (.val (.bool true)))(h:RunsTo P N c s x s'):RunsTo P N (.cond (.tmp t) c e) s x s':=fun w0 own σ0 lo0 hi0 a w hst Q hQ=>wp_cond_true (hst.eval ht) (h w0 own σ0 lo0 hi0 a w hst Q hQ)
omit hG in
theorem RunsTo.condF{P:Program}{N:Nat}{t:Nat}{c e:Code}{s s':St}{x:Ex}(ht:s.tmps[t]?=some (.val (.bool false)))(h:RunsTo P N e s x s'):RunsTo P N (.cond (.tmp t) c e) s x s':=fun w0 own σ0 lo0 hi0 a w hst Q hQ=>wp_cond_false (hst.eval ht) (h w0 own σ0 lo0 hi0 a w hst Q hQ)
omit hG in
theorem od_weak(nn o:Odr)(v:Value):dropSt [4096,oN1,oN2,oN3] (restN 90 [1,2,3,4,5]) (odS k d nn o [(49,.val v)])=odS k d nn o []:=by kernel_rfl
include hF in
theorem od_all:∃s',RunsTo Tryz.prog 90 (.seq (odL 0) (.seq (odL 1) (.seq (odL 2) (.seq (odL 3) (.seq (odL 4) (.seq (odL 5) (odR 6))))))) (startS 90 [.val (Cod.enc (Fr.mk k d))] []) .ret s'∧resA Tryz.prog s' Tryz.f211.results.toList=some [.val (Cod.enc (ordO F (⟨k,d⟩,())).a),.val (.int .i64 (ordO F (⟨k,d⟩,())).b)]:=by
 have h0:=gRun_runs (E:={gam:=gamOr F}) hG (od_q0 F k d)
 have h1:=od_q1 F k d
 unfold ordO
 dsimp only
 cases c1:(k != 16) with
 | true =>
  rw[c1]at h1
  exact ⟨_,.seq h0 (RunsTo.seqR (gRun_runs (E:={gam:=gamOr F}) hG h1)),od_res0 ..⟩
 | false =>
  rw[c1,cond_false]at h1
  cases c2:decide ((d.size:Int)<2) with
  | true =>
   rw[c2]at h1
   exact ⟨_,.seq h0 (RunsTo.seqR (gRun_runs (E:={gam:=gamOr F}) hG h1)),od_res0 ..⟩
  | false =>
   rw[c2]at h1
   have hs:¬ (d.size:Int)<2:=of_decide_eq_false c2
   have h2:=od_q2 F k d
   rw[decide_eq_true (by omega),cond_true]at h2
   have h3:=od_q3 F k d (odNn d)
   rw[decide_eq_true (by omega),cond_true]at h3
   have h4:=od_q4 F k d (odNn d) ⟨(odNn d).seq,odCd d,orb0⟩
   have pre:∀{s'},RunsTo Tryz.prog 90 (.seq (odL 4) (.seq (odL 5) (odR 6))) (odS k d (odNn d) ⟨(odNn d).seq,odCd d,orb0⟩ []) .ret s'→RunsTo Tryz.prog 90 (.seq (odL 0) (.seq (odL 1) (.seq (odL 2) (.seq (odL 3) (.seq (odL 4) (.seq (odL 5) (odR 6))))))) (startS 90 [.val (Cod.enc (Fr.mk k d))] []) .ret s':=fun h =>
    .seq h0 (.seq (gRun_runs (E:={gam:=gamOr F}) hG h1) (.seq (gRun_runs (E:={gam:=gamOr F}) hG h2) (.seq (gRun_runs (E:={gam:=gamOr F}) hG h3) h)))
   simp only[cond_false]
   dsimp only at h4
   cases c3:F.lo (odCd d,())==0 with
   | true =>
    rw[c3]at h4
    exact ⟨_,pre (RunsTo.seqR (gRun_runs (E:={gam:=gamOr F}) hG h4)),od_res1 ..⟩
   | false =>
    rw[c3,cond_false]at h4
    simp only[cond_false]
    cases c4:F.lo (odCd d,()) != (d.size:Int) with
    | true =>
     rw[c4]at h4
     exact ⟨_,pre (RunsTo.seqR (gRun_runs (E:={gam:=gamOr F}) hG h4)),od_res1 ..⟩
    | false =>
     rw[c4]at h4
     have h10:=od_c10 F k d (odNn d) ⟨(odNn d).seq,odCd d,orb0⟩
     simp only[cond_false]
     cases c5:odCd d==3 with
     | false =>
      have c5':((⟨(odNn d).seq,odCd d,orb0⟩:Odr).code==3)=false:=c5
      rw[c5']at h10
      refine ⟨_,pre (.seq (gRun_runs (E:={gam:=gamOr F}) hG h4) (.seq ?_ (gRun_runs (E:={gam:=gamOr F}) hG (od_q6 F k d (odNn d) ⟨(odNn d).seq,odCd d,orb0⟩)))),od_resZ ..⟩
      rw[od5_is]
      refine .seq (gRun_runs (E:={gam:=gamOr F}) hG h10) (RunsTo.condF rfl fun w0 own σ0 lo0 hi0 a w hst Q hQ=>wp_skip (hQ a w ?_))
      refine hst.weak ?_ (Nat.le_refl _) (Nat.le_refl _)
      rw[← od_weak k d (odNn d) _ (.bool false)]
      exact dropSt_wk _ _ _
     | true =>
      have e3:odCd d=3:=by simpa using c5
      have hsz:58≤d.size:=by
       rw[e3,hF]at c4
       simp at c4
       omega
      have c5':((⟨(odNn d).seq,odCd d,orb0⟩:Odr).code==3)=true:=c5
      rw[c5']at h10
      have h20:=od_e F k d (odNn d) (odNn d).seq (odCd d) (odOb d)
      have head:∀{x s'},RunsTo Tryz.prog 90 odR20 {odS k d (odNn d) ⟨(odNn d).seq,odCd d,odOb d⟩ []with lo:=oN5} x s'→RunsTo Tryz.prog 90 (odL 5) (odS k d (odNn d) ⟨(odNn d).seq,odCd d,orb0⟩ []) x s':=by
       intro x s' h
       rw[od5_is]
       exact .seq (gRun_runs (E:={gam:=gamOr F}) hG h10) (RunsTo.condT rfl (.seq (.seq (gRun_runs (E:={gam:=gamOr F}) hG (od_c11 F k d (odNn d) (odNn d).seq (odCd d) orb0)) (od_loop hG k d (odNn d) (odNn d).seq (odCd d) hsz)) h))
      simp only[cond_true]
      cases c6:F.rt (odOb d,()) with
      | false =>
       rw[c6]at h20
       exact ⟨_,pre (.seq (gRun_runs (E:={gam:=gamOr F}) hG h4) (RunsTo.seqR (head (gRun_runs (E:={gam:=gamOr F}) hG h20)))),od_res1 ..⟩
      | true =>
       rw[c6]at h20
       exact ⟨_,pre (.seq (gRun_runs (E:={gam:=gamOr F}) hG h4) (.seq (head (gRun_runs (E:={gam:=gamOr F}) hG h20)) (gRun_runs (E:={gam:=gamOr F}) hG (od_q6' F k d (odNn d) ⟨(odNn d).seq,odCd d,odOb d⟩)))),od_resZ ..⟩
end
def longV(p:Int×Unit):Int:=bif p.1==1 then 2 else bif p.1==2 then 2 else bif p.1==4 then 2 else bif p.1==3 then 58 else 0
theorem long242(k:Int):fnSum Tryz.prog {gam:=[]} [] 20 242 [.val (.int .i64 k)] []=bif k==1 then some (.val (.int .i64 2),[]) else bif k==2 then some (.val (.int .i64 2),[]) else bif k==4 then some (.val (.int .i64 2),[]) else bif k==3 then some (.val (.int .i64 58),[]) else some (.val (.int .i64 0),[]):=by kernel_rfl
theorem okLong:SumOk Tryz.prog 242 (S0 longV):=S0_ok (E:={gam:=[]}) GamOk.nil 20 fun a=>by
 refine (long242 a.1).trans ?_
 unfold longV
 cases a.1==1<;>cases a.1==2<;>cases a.1==4<;>cases a.1==3<;>rfl
def OD:OdOps:={lo:=longV,rt:=fun p=>orbRight p.1}
theorem gamOD:GamOk Tryz.prog (gamOr OD):=.cons okLong (.cons okRight .nil)
def ordV:Fr×Unit→Two Odr Int:=ordO OD
theorem okOrd:SumOk Tryz.prog 211 (S0 ordV):=by
 intro args cs r cs' hs
 obtain ⟨⟨⟨k,d⟩,_⟩,rfl,rfl,rfl,rfl⟩:=S0_sel hs
 obtain ⟨s',h1,h2⟩:=od_all gamOD rfl k d
 exact sum_runs f211_is od_is od_N (by show 1≤90;omega) (by simp) rfl rfl rfl (.inr rfl) h1 h2 rfl rfl (fun _ _ h=>by simp at h) rfl rfl
def orderX(x:CX)(a:Fr×Unit):CX:=orderO rejX x (ordV a)
theorem okOrderX:SumOk Tryz.prog 166 (SM (fun _ _=>true) fun x (a:Fr×Unit)=>(unitV,orderX x a)):=okOrder (.cons okReject (.cons okOrd .nil))
end Go.Ab
namespace Go.Ab
open Go Go.Proofs
section
variable (F:RdOps) (z:Int) (d:ByteArray) (c0 c1 c2 c3 c4 c5 c6 c7 c8 c9 ca cb:UInt8) (t:RdT)
noncomputable abbrev rdCut(F:RdOps)(s:St):Option (Ex×St):=gCut Tryz.prog {gam:=gamRd F} 165 rdLB s rN4 [4096,rN1,rN2,rN3] [1,2,3,5,8,9,10,11,60]
def ds6:ByteArray:=⟨#[c0,c1,c2,c3,c4,c5]⟩
def ds12:ByteArray:=⟨#[c0,c1,c2,c3,c4,c5,c6,c7,c8,c9,ca,cb]⟩
def rdI1(k z:Int)(d ds:ByteArray)(i:Nat)(t:RdT):St:=rdJ k d z ds t [(60,.val (.int .i64 i))]
def gyT(z:Int)(d ds:ByteArray)(i:Nat)(t:RdT):Option (Ex×St):=bif t.ok then bif decide (gyN ds i≤30000) then some (.normal,rdI1 1 z d ds (i+1) (rdG ds i t (decide (gyN ds i≥-30000)))) else some (.normal,rdI1 1 z d ds (i+1) (rdG ds i t false)) else some (.normal,rdI1 1 z d ds (i+1) (rdG ds i t false))
def suT(z:Int)(d ds:ByteArray)(i:Nat)(t:RdT):Option (Ex×St):=bif t.lit then some (.normal,rdI1 2 z d ds (i+1) (rdU ds i t true)) else some (.normal,rdI1 2 z d ds (i+1) (rdU ds i t (suB ds i)))
theorem rd_g0:rdCut F (rdI1 1 z d (ds6 c0 c1 c2 c3 c4 c5) 0 t)=gyT z d (ds6 c0 c1 c2 c3 c4 c5) 0 t:=by kernel_rfl
theorem rd_g1:rdCut F (rdI1 1 z d (ds6 c0 c1 c2 c3 c4 c5) 1 t)=gyT z d (ds6 c0 c1 c2 c3 c4 c5) 1 t:=by kernel_rfl
theorem rd_g2:rdCut F (rdI1 1 z d (ds6 c0 c1 c2 c3 c4 c5) 2 t)=gyT z d (ds6 c0 c1 c2 c3 c4 c5) 2 t:=by kernel_rfl
theorem rd_m0:rdCut F (rdI1 3 z d (ds6 c0 c1 c2 c3 c4 c5) 0 t)=some (.normal,rdI1 3 z d (ds6 c0 c1 c2 c3 c4 c5) 1 (rdM F (ds6 c0 c1 c2 c3 c4 c5) 0 t)):=by kernel_rfl
theorem rd_m1:rdCut F (rdI1 3 z d (ds6 c0 c1 c2 c3 c4 c5) 1 t)=some (.normal,rdI1 3 z d (ds6 c0 c1 c2 c3 c4 c5) 2 (rdM F (ds6 c0 c1 c2 c3 c4 c5) 1 t)):=by kernel_rfl
theorem rd_m2:rdCut F (rdI1 3 z d (ds6 c0 c1 c2 c3 c4 c5) 2 t)=some (.normal,rdI1 3 z d (ds6 c0 c1 c2 c3 c4 c5) 3 (rdM F (ds6 c0 c1 c2 c3 c4 c5) 2 t)):=by kernel_rfl
theorem rd_s0:rdCut F (rdI1 2 z d (ds12 c0 c1 c2 c3 c4 c5 c6 c7 c8 c9 ca cb) 0 t)=suT z d (ds12 c0 c1 c2 c3 c4 c5 c6 c7 c8 c9 ca cb) 0 t:=by kernel_rfl
theorem rd_s1:rdCut F (rdI1 2 z d (ds12 c0 c1 c2 c3 c4 c5 c6 c7 c8 c9 ca cb) 1 t)=suT z d (ds12 c0 c1 c2 c3 c4 c5 c6 c7 c8 c9 ca cb) 1 t:=by kernel_rfl
theorem rd_s2:rdCut F (rdI1 2 z d (ds12 c0 c1 c2 c3 c4 c5 c6 c7 c8 c9 ca cb) 2 t)=suT z d (ds12 c0 c1 c2 c3 c4 c5 c6 c7 c8 c9 ca cb) 2 t:=by kernel_rfl
theorem rdI1_k(k:Int)(ds:ByteArray)(i:Nat):okClean rN4 (rdI1 k z d ds i t)=true:=by kernel_rfl
end
end Go.Ab
