/- A part of the proofs: lemmas, no statement of their own; no condition. -/
import Derived.Test.YtoocjipllmkjcaaGreatFrB
import Derived.Test.YtoocjipllmkjcaaGreatGMaA
import Derived.Test.YtoocjipllmkjcaaGreatGAbM
import Derived.Test.YtoocjipllmkjcaaGreatProg
import Derived.Lib.AppendStr
import Derived.Laws.AppendOwn
import Derived.Laws.Slices
namespace Go.Ab
open Go Go.Proofs
noncomputable def pC:Code:=Tryz.f231.body.getD .skip
noncomputable def p0:Code:=seqL pC
noncomputable def pO1:Array Oper:=regO (seqL (seqR pC))
noncomputable def p2:Code:=seqL (seqR (seqR pC))
noncomputable def pT:Code:=seqR (seqR (seqR pC))
noncomputable def pO3:Array Oper:=regO (seqL (seqL pT))
noncomputable def pE:Code:=seqR pT
noncomputable def pL:Code:=inB (inB (seqR (seqL pT)))
noncomputable def p4:Code:=seqL pL
noncomputable def pM:Code:=inB (seqL (seqR (seqR pL)))
noncomputable def p7:Code:=seqR (seqR (seqR pL))
noncomputable def pO5:Array Oper:=regO (seqL pM)
noncomputable def pO6:Array Oper:=regO (seqR pM)
theorem K5d:Tryz.f231.body=some (.seq p0 (.seq (.region 1 pO1 false) (.seq p2 (.seq (.seq (.region 3 pO3 false) (.block 0 (.loop pL))) pE)))):=by kernel_rfl
theorem M4a:pL=.seq p4 (.seq (.cond (.tmp 12) .skip (.exit 0)) (.seq (.block 1 (.seq (.region 5 pO5 false) (.region 6 pO6 false))) p7)):=by kernel_rfl
noncomputable def gC:Code:=Tryz.f192.body.getD .skip
noncomputable def g0:Code:=seqL gC
noncomputable def g1:Code:=seqL (seqR gC)
noncomputable def gT:Code:=seqR (seqR gC)
noncomputable def g2:Code:=seqL (seqL gT)
noncomputable def gE:Code:=seqR gT
noncomputable def gL:Code:=inB (inB (seqR (seqL gT)))
noncomputable def g3:Code:=seqL (seqL gL)
noncomputable def gM:Code:=inB (seqL (seqR gL))
noncomputable def g4:Code:=seqR (seqR gL)
noncomputable def gO5:Array Oper:=regO (seqL gM)
noncomputable def g6:Code:=seqL (seqR gM)
noncomputable def gK:Code:=inB (inB (seqR (seqR gM)))
noncomputable def g7:Code:=seqL (seqL gK)
noncomputable def g9:Code:=inB (seqL (seqR gK))
noncomputable def g8:Code:=seqR (seqR gK)
theorem B5u:Tryz.f192.body=some (.seq g0 (.seq g1 (.seq (.seq g2 (.block 0 (.loop gL))) gE))):=by kernel_rfl
theorem A4t:gL=.seq (.seq g3 (.cond (.tmp 10) .skip (.exit 0))) (.seq (.block 1 (.seq (.region 5 gO5 false) (.seq g6 (.block 2 (.loop gK))))) g4):=by kernel_rfl
theorem A4r:gK=.seq (.seq g7 (.cond (.tmp 21) .skip (.exit 2))) (.seq (.block 3 g9) g8):=by kernel_rfl
def pS0(s:ByteArray):St:=mkSt 27 [0] [.string s] [] [] [] 4096 frH frT
def pS1(s:ByteArray):St:=mkSt 27 [0] [.string s] [(3,4096,0)] [(4096,284,256)] (u16s tabN) fr2 frH frT
def pS2(s:ByteArray)(r:Int):St:=mkSt 27 [0,4] [.string s,.int .u16 r] [(3,4096,0)] [(4096,284,256)] (u16s tabN) fr2 frH frT
def pS(sl:List (Nat×Value))(v:Value)(n i r:Int):St:=mkSt 27 ([9,10,11,4]++sl.map (·.1)) ([v,.int .i64 n,.int .i64 i,.int .u16 r]++sl.map (·.2)) [(3,4096,0)] [(4096,284,256)] (u16s tabN) fr2 frH frT
abbrev pB:List Nat:=[9,10,11,4,3]
theorem zpr0(s:ByteArray):C0t [] 27 p0 ⟨[Value.string s].map .val++List.replicate (27-[Value.string s].length) (.val undef),[],4096,frH,frT,[]⟩ [] [0]=some (.normal,pS0 s):=by kernel_rfl
noncomputable abbrev U0u(N:Nat)(ops:Array Oper)(l:List Oper)(s:St)(keep ts:List Nat):Option (Bool×St):=B0j Tryz.prog (B0v Tryz.prog {gam:=([]:Gam)} 1 (Bool×St)) (B0p ([]:Gam)) N ops l s [] (C0p keep (Q0c N ts))
theorem zpr1(s:ByteArray):U0u 27 pO1 (pO1.toList.drop 1) {pS0 s with tmps:=(pS0 s).tmps.set 7 (.val (.agg (List.toArray (u16s tabN))))} [4096] [0,3]=some (true,pS1 s):=by kernel_rfl
theorem zpr2(s:ByteArray):C0t [] 27 p2 (pS1 s) [4096] [0,4,3]=some (.normal,pS2 s 65535):=by kernel_rfl
theorem zpr3(s:ByteArray)(r:Int)(a:Option Addr)(n c:Nat):U0u 27 pO3 (pO3.toList.drop 2) {pS2 s r with tmps:=((pS2 s r).tmps.set 8 (.val (.string s))).set 9 (.val (.slice a n c))} [4096] pB=some (true,pS [] (.slice a n c) n 0 r):=by kernel_rfl
theorem pfr4(v:Value)(n i r:Int):C0t [] 27 p4 (pS [] v n i r) [4096] (12 :: pB)=some (.normal,pS [(12,.bool (decide (i<n)))] v n i r):=by kernel_rfl
theorem zpr5(v x:Value)(n i r c:Int):U0u 27 pO5 (pO5.toList.drop 2) {pS [] v n i r with tmps:=((pS [] v n i r).tmps.set 13 (.val x)).set 14 (.val (.int .u8 c))} [4096] (6 :: pB)=some (true,pS [(6,.int .u8 c)] v n i r):=by kernel_rfl
theorem pr6(v:Value)(n i r c:Int):U0u 27 pO6 (pO6.toList.take 7) (pS [(6,.int .u8 c)] v n i r) [4096] (16 :: 21 :: pB) =
  some (true,pS [(16,.int .u16 (IntKind.u16.wrap (r*2^8))),(21,.int .u8 (xorV .u8 (IntKind.u8.wrap (r.fdiv (2^8))) c))] v n i r):=by kernel_rfl
theorem pr6b(v:Value)(n i r x q:Int)(j:Nat):U0u 27 pO6 (pO6.toList.drop 9) {pS [(16,.int .u16 x),(21,.int .u8 q)] v n i r with tmps:=((pS [(16,.int .u16 x),(21,.int .u8 q)] v n i r).tmps.set 22 (.ptr 4096 j)).set 23 (.val (.int .u16 (tabN.getD j 0:Nat)))} [4096] pB =
  some (true,pS [] v n i (xorV .u16 x (tabN.getD j 0:Nat))):=by kernel_rfl
theorem pr7(v:Value)(n i r:Int):C0t [] 27 p7 (pS [] v n i r) [4096] pB=some (.normal,pS [] v n (IntKind.i64.wrap (i+1)) r):=by kernel_rfl
def pSE(r:Int):St:=mkSt 27 [2] [.int .u16 r] [] [] [] fr2 frH frT
theorem zprE(v:Value)(n i r:Int):C0t [] 27 pE (pS [] v n i r) [] [2]=some (.ret,pSE r):=by kernel_rfl
theorem pRes(r:Int):resA Tryz.prog (pSE r) Tryz.f231.results.toList=some [.val (.int .u16 r)]:=by kernel_rfl
def gS(sl:List (Nat×Value))(s:ByteArray):St:=mkSt 32 ([0]++sl.map (·.1)) ([.string s]++sl.map (·.2)) [] [] [] 4096 frH frT
def gV(i r:Int):List (Nat×Value):=[(3,.int .u16 r),(4,.int .i64 i)]
def gW(i r k:Int):List (Nat×Value):=[(3,.int .u16 r),(4,.int .i64 i),(5,.int .i64 k)]
theorem gr0(s:ByteArray):C0t [] 32 g0 ⟨[Value.string s].map .val++List.replicate (32-[Value.string s].length) (.val undef),[],4096,frH,frT,[]⟩ [] [0]=some (.normal,gS [] s):=by kernel_rfl
theorem gr1(s:ByteArray):C0t [] 32 g1 (gS [] s) [] [0,3]=some (.normal,gS [(3,.int .u16 65535)] s):=by kernel_rfl
theorem gr2(s:ByteArray):C0t [] 32 g2 (gS [(3,.int .u16 65535)] s) [] [0,3,4]=some (.normal,gS (gV 0 65535) s):=by kernel_rfl
theorem gr3(s:ByteArray)(i r:Int):C0t [] 32 g3 (gS (gV i r) s) [] [0,3,4,10]=some (.normal,gS (gV i r++[(10,.bool (decide (i<s.size)))]) s):=by kernel_rfl
theorem gr5(s:ByteArray)(i r c:Int)(x y:Value):U0u 32 gO5 (gO5.toList.drop 4) {gS (gV i r) s with tmps:=((((gS (gV i r) s).tmps.set 13 (.val (.int .u16 r))).set 14 (.val x)).set 15 (.val y)).set 16 (.val (.int .u8 c))} [] [0,3,4] =
  some (true,gS (gV i (xorV .u16 r (IntKind.u16.wrap (IntKind.u16.wrap c*2^8)))) s):=by kernel_rfl
theorem gr6(s:ByteArray)(i r:Int):C0t [] 32 g6 (gS (gV i r) s) [] [0,3,4,5]=some (.normal,gS (gW i r 0) s):=by kernel_rfl
theorem gr7(s:ByteArray)(i r k:Int):C0t [] 32 g7 (gS (gW i r k) s) [] [0,3,4,5,21]=some (.normal,gS (gW i r k++[(21,.bool (decide (k<8)))]) s):=by kernel_rfl
theorem gr9(s:ByteArray)(i r k:Int):C0t [] 32 g9 (gS (gW i r k) s) [] [0,3,4,5]=bif decide (r≥32768) then some (.normal,gS (gW i (xorV .u16 (IntKind.u16.wrap (r*2^1)) 4129) k) s) else some (.normal,gS (gW i (IntKind.u16.wrap (r*2^1)) k) s):=by kernel_rfl
theorem gr8(s:ByteArray)(i r k:Int):C0t [] 32 g8 (gS (gW i r k) s) [] [0,3,4,5]=some (.normal,gS (gW i r (IntKind.i64.wrap (k+1))) s):=by kernel_rfl
theorem gr4(s:ByteArray)(i r:Int):C0t [] 32 g4 (gS (gV i r) s) [] [0,3,4]=some (.normal,gS (gV (IntKind.i64.wrap (i+1)) r) s):=by kernel_rfl
def gSE(r:Int):St:=mkSt 32 [2] [.int .u16 r] [] [] [] 4096 frH frT
theorem grE(s:ByteArray)(i r:Int):C0t [] 32 gE (gS (gV i r) s) [] [2]=some (.ret,gSE r):=by kernel_rfl
theorem gRes(r:Int):resA Tryz.prog (gSE r) Tryz.f192.results.toList=some [.val (.int .u16 r)]:=by kernel_rfl
theorem A4n:Tryz.prog.funcs[231]?=some Tryz.f231:=by kernel_rfl
theorem A4a:Tryz.prog.funcs[192]?=some Tryz.f192:=by kernel_rfl
theorem A4e : (Tryz.f247.body.isSome && !Tryz.f247.name == "runtime.NumGoroutine") = true := by kernel_rfl
def cTab:Call:={callee:=.value (.func 247),args:=#[],argTypes:=#[]}
theorem q1_0:B0a pO1 0=some (.call cTab,some 7,true):=by kernel_rfl
theorem q1_n:List.range pO1.size=0 :: ((List.range (pO1.toList.drop 1).length).map (1+·)++[]):=by kernel_rfl
theorem q3_0:B0a pO3 0=some (.move (.tmp 0),some 8,true):=by kernel_rfl
theorem q3_1:B0a pO3 1=some (.convert 9 227 (.tmp 8),some 9,true):=by kernel_rfl
theorem q3_n:List.range pO3.size=0 :: 1 :: ((List.range (pO3.toList.drop 2).length).map (2+·)++[]):=by kernel_rfl
theorem q5_0:B0a pO5 0=some (.indexAddr 227 (.tmp 9) (.tmp 11),some 13,true):=by kernel_rfl
theorem q5_1:B0a pO5 1=some (.load 5 (.tmp 13),some 14,true):=by kernel_rfl
theorem q5_n:List.range pO5.size=0 :: 1 :: ((List.range (pO5.toList.drop 2).length).map (2+·)++[]):=by kernel_rfl
theorem q6_7:B0a pO6 7=some (.indexAddr 284 (.tmp 3) (.tmp 21),some 22,true):=by kernel_rfl
theorem q6_8:B0a pO6 8=some (.load 229 (.tmp 22),some 23,true):=by kernel_rfl
theorem q6_n:List.range pO6.size=(List.range (pO6.toList.take 7).length).map (0+·)++(7 :: 8 :: ((List.range (pO6.toList.drop 9).length).map (9+·)++[])):=by kernel_rfl
theorem k5_0:B0a gO5 0=some (.move (.tmp 3),some 13,true):=by kernel_rfl
theorem k5_1:B0a gO5 1=some (.move (.tmp 0),some 14,true):=by kernel_rfl
theorem k5_2:B0a gO5 2=some (.move (.tmp 4),some 15,true):=by kernel_rfl
theorem k5_3:B0a gO5 3=some (.index 9 (.tmp 14) (.tmp 15),some 16,true):=by kernel_rfl
theorem k5_n:List.range gO5.size=0 :: 1 :: 2 :: 3 :: ((List.range (gO5.toList.drop 4).length).map (4+·)++[]):=by kernel_rfl
theorem v9:Tryz.prog.underlying 9=some .string:=by kernel_rfl
theorem v38:Tryz.prog.underlying 227=some (.slice 5):=by kernel_rfl
theorem zv5:Tryz.prog.underlying 5=some (.int .u8):=by kernel_rfl
theorem v40:Tryz.prog.underlying 284=some (.array 256 229):=by kernel_rfl
theorem v22:Tryz.prog.underlying 229=some (.int .u16):=by kernel_rfl
theorem j5:(Tryz.prog.info? 5).map (·.size)=some 1:=by kernel_rfl
theorem j22:(Tryz.prog.info? 229).map (·.size)=some 1:=by kernel_rfl
theorem D0k{ops:Array Oper}{k j:Nat}{o:Oper}(h:(ops.toList.drop k)[j]?=some o):ops[k+j]?=some o:=by
 rw[List.getElem?_drop,Array.getElem?_toList]at h
 exact h
theorem L0b{ops:Array Oper}{k j:Nat}{o:Oper}(h:(ops.toList.take k)[j]?=some o):ops[0+j]?=some o:=by
 rw[List.getElem?_take]at h
 split at h
 ·rw[Array.getElem?_toList]at h
  rw[Nat.zero_add]
  exact h
 ·cases h
theorem D4m{ops:Array Oper}{k n j:Nat}{o:Oper}(h:((ops.toList.drop k).take n)[j]?=some o):ops[k+j]?=some o:=by
 rw[List.getElem?_take]at h
 split at h
 ·rw[List.getElem?_drop,Array.getElem?_toList]at h
  exact h
 ·cases h
theorem T1z{t n:Nat}(h:(Tryz.prog.info? t).map (·.size)=some n):∃ti,Tryz.prog.info? t=some ti∧ti.size=n:=by
 cases hi:Tryz.prog.info? t with
 | none=>rw[hi]at h;cases h
 | some ti=>rw[hi]at h;exact ⟨ti,rfl,by simpa using h⟩
section
variable (s:ByteArray) (v:Value) (n i r k c x q:Int) (b:Bool)
theorem oP0:A0g (pS0 s)=true:=by kernel_rfl
theorem oP1:A0g (pS1 s)=true:=by kernel_rfl
theorem oP2:A0g (pS2 s r)=true:=by kernel_rfl
theorem oP:A0g (pS [] v n i r)=true:=by kernel_rfl
theorem oP12:A0g (pS [(12,.bool b)] v n i r)=true:=by kernel_rfl
theorem oP6:A0g (pS [(6,.int .u8 c)] v n i r)=true:=by kernel_rfl
theorem oP62:A0g (pS [(16,.int .u16 x),(21,.int .u8 q)] v n i r)=true:=by kernel_rfl
theorem oPE:A0g (pSE r)=true:=by kernel_rfl
theorem wP12:G0k [4096] (Q0c 27 pB) (pS [(12,.bool b)] v n i r)=pS [] v n i r:=by kernel_rfl
theorem lP0:(pS0 s).tmps.length=27:=by kernel_rfl
theorem lP2:(pS2 s r).tmps.length=27:=by kernel_rfl
theorem lP:(pS [] v n i r).tmps.length=27:=by kernel_rfl
theorem lP62:(pS [(16,.int .u16 x),(21,.int .u8 q)] v n i r).tmps.length=27:=by kernel_rfl
theorem hP62:hget (pS [(16,.int .u16 x),(21,.int .u8 q)] v n i r).heap 4096=some (.row 284 ((u16s tabN).map .val)):=by kernel_rfl
theorem oG0:A0g (gS [] s)=true:=by kernel_rfl
theorem oG1:A0g (gS [(3,.int .u16 r)] s)=true:=by kernel_rfl
theorem oG2:A0g (gS (gV i r) s)=true:=by kernel_rfl
theorem oG3:A0g (gS (gV i r++[(10,.bool b)]) s)=true:=by kernel_rfl
theorem oG4:A0g (gS (gW i r k) s)=true:=by kernel_rfl
theorem oG5:A0g (gS (gW i r k++[(21,.bool b)]) s)=true:=by kernel_rfl
theorem oGE:A0g (gSE r)=true:=by kernel_rfl
theorem wG3:G0k [] (Q0c 32 [0,3,4]) (gS (gV i r++[(10,.bool b)]) s)=gS (gV i r) s:=by kernel_rfl
theorem wG5:G0k [] (Q0c 32 [0,3,4,5]) (gS (gW i r k++[(21,.bool b)]) s)=gS (gW i r k) s:=by kernel_rfl
theorem wG6:G0k [] (Q0c 32 [0,3,4]) (gS (gW i r k) s)=gS (gV i r) s:=by kernel_rfl
theorem lG2:(gS (gV i r) s).tmps.length=32:=by kernel_rfl
end
theorem Keep.wide{F:Nat→Prop}{w0 w w' w'':World}(h:Keep F w0 w)(h1:w'.os=w.os)(h2:w'.tape=w.tape)(h3:w'.output=w.output)(hg:w.heap.size≤w'.heap.size)(hs:∀j,F j→w'.heap[j]?=w.heap[j]?)(k:Keep (Wide F w w') w' w''):Keep F w0 w'' :=
 ⟨k.os.trans (h1.trans h.os),k.tape.trans (h2.trans h.tape),k.output.trans (h3.trans h.output),Nat.le_trans h.grown (Nat.le_trans hg k.grown),fun x hx=>⟨(h.frame x hx).1,(k.frame x (.inl hx)).2.trans ((hs x hx).trans (h.frame x hx).2)⟩⟩
theorem P4u{j:Nat}(hj:j<256):tabN.getD j 0=sh8 (j*256)∧((u16s tabN).map AV.val)[j]?=some (.val (.int .u16 (tabN.getD j 0:Nat))):=by
 have e:(nums 0 256)[j]?=some j:=by
  have hl:(nums 0 256).length=256:=by kernel_rfl
  have :=List.getElem?_eq_getElem (l:=nums 0 256) (i:=j) (by omega)
  obtain ⟨h1,_⟩:=V0c 256 0 j _ this
  rw[this,h1,Nat.zero_add]
 have h:tabN[j]?=some (sh8 (j*256)):=by unfold tabN;rw[List.getElem?_map,e];rfl
 have h2:tabN.getD j 0=sh8 (j*256):=by rw[List.getD_eq_getElem?_getD,h];rfl
 refine ⟨h2,?_⟩
 rw[h2]
 unfold u16s
 rw[List.getElem?_map,List.getElem?_map,h]
 rfl
theorem T1b{l:List UInt8}{i:Nat}(hi:i<l.length):l.take (i+1)=l.take i++[l.getD i 0]:=by
 rw[List.take_add_one,List.getElem?_eq_getElem hi,List.getD_eq_getElem?_getD,List.getElem?_eq_getElem hi]
 rfl
theorem M1y(l:List UInt8)(b:UInt8)(r:Nat):crcF (l++[b]) r=stR (crcF l r) b.toNat:=by unfold crcF;rw[List.foldl_append];rfl
theorem P0q(w:World)(e:TypeId)(s:ByteArray):(Lib.bytesWorld w e s).os=w.os∧(Lib.bytesWorld w e s).tape=w.tape∧(Lib.bytesWorld w e s).output=w.output:=⟨rfl,rfl,rfl⟩
theorem shl8(r:Nat):IntKind.u16.wrap ((r:Int)*2^8)=((r*256 % 65536:Nat):Int):=by
 have e:(r:Int)*2^8=((r*256:Nat):Int):=by omega
 rw[e,Y0q]
theorem shr8(r:Nat):(r:Int).fdiv (2^8)=((r / 256:Nat):Int):=by
 rw[Int.fdiv_eq_ediv_of_nonneg _ (by decide)]
 omega
attribute [local irreducible] u16s tabN
theorem R2t{w0:World}{F:Nat→Prop}{s:ByteArray}{blk cap:Nat}(hF:F blk)(hc:∀j,j<s.size→w0.cell? ⟨blk,j,none⟩=some (.int .u8 (s.data.toList.getD j 0).toNat))(hsz:s.size≤4611686018427387904){Q:Exit→Act→World→Prop}
  (hQ:∀a' w',A0t F w0 27 (pS [] (.slice (some ⟨blk,0,none⟩) s.size cap) s.size s.size (crcF s.data.toList 65535:Nat)) a' w'→Q (.exit 0) a' w') :
  ∀(m i:Nat) (act:Act) (w:World),i+m=s.size→A0t F w0 27 (pS [] (.slice (some ⟨blk,0,none⟩) s.size cap) s.size i (crcF (s.data.toList.take i) 65535:Nat)) act w→Code.rounds Tryz.prog pL Q (m+1) act w:=by
 have hlen:s.data.toList.length=s.size:=rfl
 intro m
 induction m with
 | zero =>
  intro i act w hi hst
  rw[rounds_succ,M4a]
  refine wp_seq ((A0e B0n _ _ (pfr4 _ _ _ _)).stand (oP12 ..) hst fun a1 w1 h1=>?_)
  have hb:decide ((i:Int)<(s.size:Int))=false:=decide_eq_false (by omega)
  rw[hb]at h1
  refine wp_seq (wp_cond_false (h1.eval (t:=12) rfl) (wp_exit ?_))
  have hi':i=s.size:=by omega
  subst hi'
  rw[← hlen,List.take_length]at h1
  refine hQ a1 w1 (h1.weak ?_ (Nat.le_refl _) (Nat.le_refl _))
  rw[← wP12 _ _ _ _ false]
  exact C0e _ _ _
 | succ m ih =>
  intro i act w hi hst
  rw[rounds_succ,M4a]
  refine wp_seq ((A0e B0n _ _ (pfr4 _ _ _ _)).stand (oP12 ..) hst fun a1 w1 h1=>?_)
  have hb:decide ((i:Int)<(s.size:Int))=true:=decide_eq_true (by omega)
  rw[hb]at h1
  refine wp_seq (wp_cond_true (h1.eval (t:=12) rfl) (wp_skip ?_))
  have h2:A0t F w0 27 (pS [] (.slice (some ⟨blk,0,none⟩) s.size cap) s.size i (crcF (s.data.toList.take i) 65535:Nat)) a1 w1:=by
   refine h1.weak ?_ (Nat.le_refl _) (Nat.le_refl _)
   rw[← wP12 _ _ _ _ true]
   exact C0e _ _ _
  generalize hr:crcF (s.data.toList.take i) 65535=r at h2
  have hrl:r<65536:=by rw[← hr];exact W0g _ _ (by omega)
  generalize hcc:(s.data.toList.getD i 0)=c
  have hcl:c.toNat<256:=c.toNat_lt
  obtain ⟨ti,hti,hs1⟩:=T1z j5
  refine wp_seq (wp_block (wp_seq (wp_region ?_)))
  rw[q5_n]
  refine T1y q5_0 (by omega) (lP ..) v38 hti h2 (b:=⟨blk,0,none⟩) (len:=s.size) (cap:=cap) (i:=i) (ik:=.i64) (h2.eval (t:=9) rfl) (h2.eval (t:=11) rfl) (by omega) _ fun a3 h3=>?_
  have hcell:w1.cell? ((⟨blk,0,none⟩:Addr).add (i*ti.size))=some (.int .u8 (c.toNat:Int)):=by
   rw[hs1,Nat.mul_one,G0a,Nat.zero_add]
   have :=hc i (by omega)
   rw[hcc]at this
   have e:=(h2.keep.frame blk hF).2
   unfold World.cell? at this ⊢
   rw[e]
   exact this
  refine G1a q5_1 (by omega) (by rw[List.length_set];exact lP ..) h3 (h3.eval (t:=13) rfl) (M0b zv5 rfl hcell) _ fun a4 h4=>?_
  refine D0p (B0n _) (qf:=B0p ([]:Gam)) [4096] _ (zpr5 (.slice (some ⟨blk,0,none⟩) s.size cap) (.pointer (some ((⟨blk,0,none⟩:Addr).add (i*ti.size)))) s.size i r c.toNat) (fun _ _ hj=>D0k hj) (oP6 (.slice (some ⟨blk,0,none⟩) s.size cap) s.size i r c.toNat) h4 [] fun a5 w5 h5=>?_
  refine wp_region ?_
  rw[q6_n]
  refine D0p (B0n _) (qf:=B0p ([]:Gam)) [4096] _ (pr6 (.slice (some ⟨blk,0,none⟩) s.size cap) s.size i r c.toNat) (fun _ _ hj=>L0b hj) (oP62 ..) h5 _ fun a6 w6 h6=>?_
  have e1:IntKind.u16.wrap ((r:Int)*2^8)=((r*256 % 65536:Nat):Int):=shl8 r
  have hx:(r / 256 ^^^ c.toNat)<2^8:=Nat.xor_lt_two_pow (by omega) (by omega)
  have e2:xorV .u8 (IntKind.u8.wrap ((r:Int).fdiv (2^8))) (c.toNat:Int)=((r / 256 ^^^ c.toNat:Nat):Int):=by
   rw[shr8,D1z,Nat.mod_eq_of_lt (by omega),xor8 (by omega) hcl]
  rw[e1,e2]at h6
  obtain ⟨t22,h22,s22⟩:=T1z j22
  obtain ⟨b1,b2⟩:=P4u (j:=r / 256 ^^^ c.toNat) (by omega)
  refine P2c q6_7 (by omega) (lP62 ..) v40 h22 s22 h6 (b:=4096) (j:=r / 256 ^^^ c.toNat) (ik:=.u8) rfl rfl (by omega) _ fun a7 h7=>?_
  refine Y2h q6_8 (by omega) (by rw[List.length_set];exact lP62 ..) v22 rfl h7 (b:=4096) (j:=r / 256 ^^^ c.toNat) rfl (hP62 ..) b2 _ fun a8 h8=>?_
  refine D0p (B0n _) (qf:=B0p ([]:Gam)) [4096] _ (pr6b (.slice (some ⟨blk,0,none⟩) s.size cap) s.size i r (r*256 % 65536:Nat) (r / 256 ^^^ c.toNat:Nat) (r / 256 ^^^ c.toNat)) (fun _ _ hj=>D0k hj) (oP ..) h8 [] fun a9 w9 h9=>?_
  have e3:xorV .u16 ((r*256 % 65536:Nat):Int) (tabN.getD (r / 256 ^^^ c.toNat) 0:Nat)=((crcF (s.data.toList.take (i+1)) 65535:Nat):Int):=by
   have hs8:sh8 ((r / 256 ^^^ c.toNat)*256)<65536:=C3y (by omega)
   rw[b1,V3e (by omega) hs8,T1b (by omega),M1y,hr,hcc,← M5u hrl hcl]
   rfl
  rw[e3]at h9
  refine (A0e B0n _ _ (pr7 _ _ _ _)).stand (oP ..) h9 fun a10 w10 h10=>?_
  have hw:IntKind.i64.wrap ((i:Int)+1)=((i+1:Nat):Int):=by rw[C0k];omega
  rw[hw]at h10
  exact ih (i+1) a10 w10 (by omega) h10
theorem R1a(s:ByteArray)(hsz:s.size≤4611686018427387904)(w:World):Calls Tryz.prog 231 #[.string s] w fun e w'=>∃v,e=.returned v∧RowKit.Below w.heap.size w w'∧v=.int .u16 (crcF s.data.toList 65535:Nat):=by
 refine calls_of_wp A4n K5d ?_
 have hst:=A0t.start (N:=27) [.string s] w 4096 frH frT (by simp)
 refine wp_seq ((A0e B0n _ _ (zpr0 s)).stand (oP0 s) hst fun a1 w1 h1=>?_)
 refine wp_seq (wp_region ?_)
 rw[q1_n]
 refine E1g q1_0 (by omega) (lP0 s) h1 rfl B3z A4e (args:=#[]) (by simp[cTab]) (W1k w1) _ fun v a2 w2 hv hb h2=>?_
 subst hv
 have K2:∀w'',Keep (Wide (fun k=>k<w.heap.size) w1 w2) w2 w''→Keep (fun k=>k<w.heap.size) w w'':=fun w'' k=>h1.keep.wide hb.os hb.tape hb.output hb.size (fun j hj=>hb.block j (h1.keep.lt hj)) k
 refine D0p (B0n _) (qf:=B0p ([]:Gam)) [4096] _ (zpr1 s) (fun _ _ hj=>D0k hj) (oP1 ..) h2 [] fun a3 w3 h3=>?_
 refine wp_seq ((A0e B0n _ _ (zpr2 s)).stand (oP2 ..) h3 fun a4 w4 h4=>?_)
 refine wp_seq (wp_seq (wp_region ?_))
 rw[q3_n]
 refine K0g q3_0 (by omega) (lP2 ..) h4 (v:=.string s) (h4.eval (t:=0) rfl) _ fun a5 h5=>?_
 refine K1v q3_1 (by omega) (by rw[List.length_set];exact lP2 ..) h5 (v:=.slice (some ⟨w4.heap.size,0,none⟩) s.size (grownCap w4 s.size 0 5)) (w':=Lib.bytesWorld w4 5 s) (fun o ho=>?_) (by rw[Lib.bytesWorld_size];omega) (fun j hj _=>Lib.bytesWorld_at_old w4 5 s j hj) _ fun a6 h6=>?_
 ·have hx:a5.eval (.tmp 8)=.string s:=h5.eval (t:=8) rfl
  simp only[execOp,ho,hx,Sem.run_bind,Lib.run_convert_string_bytes w4 9 227 5 s v9 v38 zv5,Result.andThen_ok,Sem.run_pure]
 refine D0p (B0n _) (qf:=B0p ([]:Gam)) [4096] _ (zpr3 s 65535 (some ⟨w4.heap.size,0,none⟩) s.size (grownCap w4 s.size 0 5)) (fun _ _ hj=>D0k hj) (oP (.slice (some ⟨w4.heap.size,0,none⟩) s.size (grownCap w4 s.size 0 5)) s.size 0 65535) h6 [] fun a7 w7 h7=>?_
 obtain ⟨z1,z2,z3⟩:=P0q w4 5 s
 have K3:∀w'',Keep (Wide (Wide (fun k=>k<w.heap.size) w1 w2) w4 (Lib.bytesWorld w4 5 s)) (Lib.bytesWorld w4 5 s) w''→Keep (fun k=>k<w.heap.size) w w'':=fun w'' k =>
  K2 w'' (h4.keep.wide z1 z2 z3 (by rw[Lib.bytesWorld_size];omega) (fun j hj=>Lib.bytesWorld_at_old w4 5 s j (h4.keep.lt hj)) k)
 refine wp_block (wp_loop_rounds (s.size+1) (R2t (blk:=w4.heap.size) (cap:=grownCap w4 s.size 0 5) (.inr ⟨Nat.le_refl _,by rw[Lib.bytesWorld_size];omega⟩) (fun j hj=>Lib.bytesWorld_cell w4 5 s j hj) hsz (fun a8 w8 h8=>?_) s.size 0 a7 w7 (by omega) h7))
 refine (A0e B0n _ _ (zprE _ _ _ _)).stand (oPE ..) h8 fun a9 w9 h9=>?_
 obtain ⟨y1,y2,y3⟩:=h9.results (P:=Tryz.prog) (fn:=Tryz.f231) (pRes _)
 exact bodyPost_ret y1 y2 ⟨_,rfl,(K3 _ y3).below,rfl⟩
end Go.Ab
namespace Go.Ab
open Go
variable {α ω:Type}
instance:Cod ByteArray where
 enc s:=.string s
 dec v:=match v with | .string s=>some s | _=>none
 law v a h:=by split at h<;>simp_all
structure N16 where
 n:Nat
instance:Cod N16 where
 enc x:=.int .u16 x.n
 dec v:=match v with | .int .u16 (.ofNat n)=>some ⟨n⟩ | _=>none
 law v a h:=by split at h<;>simp_all;subst h;rfl
def S0w[Args α][Cod ω](pre:α→Bool)(g:α→ω):D0c:=fun args cs=>match cs with
 | []=>match Args.decs (α:=α) args with
  | some a=>.test (pre a) (.ret (.val (Cod.enc (g a))) []) .no
  | none=>.no
 | _ :: _=>.no
theorem Z0n[Args α][Cod ω]{pre:α→Bool}{g:α→ω}{args:List AV}{cs cs':List Con}{r:AV}(h:(S0w pre g args cs).sel=some (r,cs')) :
  ∃a,pre a=true∧args=Args.encs a∧cs=[]∧r=.val (Cod.enc (g a))∧cs'=[]:=by
 unfold S0w at h
 split at h
 ·split at h
  ·rename_i a ha
   cases hp:pre a with
   | false=>rw[hp]at h;simp[STr.sel]at h
   | true =>
    rw[hp]at h
    simp only[STr.sel,cond_true,Option.some.injEq,Prod.mk.injEq]at h
    obtain ⟨rfl,rfl⟩:=h
    exact ⟨a,hp,Args.law _ _ ha,rfl,rfl,rfl⟩
  ·simp[STr.sel]at h
 ·simp[STr.sel]at h
class X0w (α:Type) [Args α] where
 vals:α→List Value
 law:∀a:α,Args.encs a=(vals a).map AV.val
instance:X0w Unit where
 vals _:=[]
 law _:=rfl
instance {α β:Type} [Cod α] [Args β] [X0w β]:X0w (α×β) where
 vals p:=Cod.enc p.1 :: X0w.vals p.2
 law a:=by show _ :: Args.encs a.2=_;rw[X0w.law a.2];rfl
theorem C1e{σ:Nat→Option Nat}:∀(l vs:List Value),Rels σ (l.map AV.val) vs→vs=l
 | [],vs,h=>by simpa only[List.map_nil,Rels]using h
 | v :: l,vs,h=>by
  simp only[List.map_cons,Rels]at h
  obtain ⟨x,xs,rfl,h1,h2⟩:=h
  simp only[Rel]at h1
  rw[h1,C1e l xs h2]
theorem X0x[Args α][X0w α][Cod ω]{P:Program}{f:FuncId}{pre:α→Bool}{g:α→ω}
  (h:∀a w,pre a=true→Calls P f (List.toArray (X0w.vals a)) w fun e w'=>∃v,e=.returned v∧RowKit.Below w.heap.size w w'∧v=Cod.enc (g a)):A0h P f (S0w pre g):=by
 intro args cs r cs' hs
 obtain ⟨a,hp,rfl,rfl,rfl,rfl⟩:=Z0n hs
 refine ⟨by simp,fun σ vals w hinj hbd hvals _ _=>?_⟩
 rw[X0w.law]at hvals
 obtain rfl:=C1e _ _ hvals
 refine Calls.mono (h a w hp) fun e w' he=>?_
 obtain ⟨v,rfl,hb,rfl⟩:=he
 refine ⟨σ,_,rfl,Le.refl σ,fun b hb _=>hb,by simp only[Rel],fun b c hb=>?_,hinj,fun b r hr=>Nat.lt_of_lt_of_le (hbd b r hr) hb.size,fun b c hb=>?_,hb.os,hb.tape,hb.output,hb.size,fun k hk _=>hb.block k hk⟩
 ·simp[numH,hget]at hb
 ·simp[numH,hget]at hb
end Go.Ab
namespace Go.Ab
open Go Go.Proofs
theorem shl1(r:Nat):IntKind.u16.wrap ((r:Int)*2^1)=((r*2 % 65536:Nat):Int):=by
 have e:(r:Int)*2^1=((r*2:Nat):Int):=by omega
 rw[e,Y0q]
def shN:Nat→(Nat→Nat)
 | 0=>fun r=>r
 | n+1=>fun r=>shN n (sh1 r)
theorem shN8(r:Nat):shN 8 r=sh8 r:=rfl
theorem D2u{w0:World}{F:Nat→Prop}{s:ByteArray}{i:Int}{Q:Exit→Act→World→Prop} :
  ∀(m k r:Nat) (act:Act) (w:World),k+m=8→r<65536→(∀a' w',A0t F w0 32 (gS (gV i (shN m r:Nat)) s) a' w'→Q (.exit 2) a' w')→A0t F w0 32 (gS (gW i r k) s) act w→Code.rounds Tryz.prog gK Q (m+1) act w:=by
 intro m
 induction m with
 | zero =>
  intro k r act w hk hr hQ hst
  rw[rounds_succ,A4r]
  refine wp_seq (wp_seq ((A0e B0n _ _ (gr7 _ _ _ _)).stand (oG5 ..) hst fun a1 w1 h1=>?_))
  have hb:decide ((k:Int)<8)=false:=decide_eq_false (by omega)
  rw[hb]at h1
  refine wp_cond_false (h1.eval (t:=21) rfl) (wp_exit ?_)
  have h2:A0t F w0 32 (gS (gW i r k) s) a1 w1:=by
   refine h1.weak ?_ (Nat.le_refl _) (Nat.le_refl _)
   rw[← wG5 _ _ _ _ false]
   exact C0e _ _ _
  refine hQ a1 w1 (h2.weak ?_ (Nat.le_refl _) (Nat.le_refl _))
  show Wk (gS (gV i r) s).u _
  rw[← wG6 _ _ _ k]
  exact C0e _ _ _
 | succ m ih =>
  intro k r act w hk hr hQ hst
  rw[rounds_succ,A4r]
  refine wp_seq (wp_seq ((A0e B0n _ _ (gr7 _ _ _ _)).stand (oG5 ..) hst fun a1 w1 h1=>?_))
  have hb:decide ((k:Int)<8)=true:=decide_eq_true (by omega)
  rw[hb]at h1
  refine wp_cond_true (h1.eval (t:=21) rfl) (wp_skip ?_)
  have h2:A0t F w0 32 (gS (gW i r k) s) a1 w1:=by
   refine h1.weak ?_ (Nat.le_refl _) (Nat.le_refl _)
   rw[← wG5 _ _ _ _ true]
   exact C0e _ _ _
  have e:(bif decide ((r:Int)≥32768) then some (Ex.normal,gS (gW i (xorV .u16 (IntKind.u16.wrap ((r:Int)*2^1)) 4129) k) s) else some (.normal,gS (gW i (IntKind.u16.wrap ((r:Int)*2^1)) k) s))=some (.normal,gS (gW i (sh1 r:Nat) k) s):=by
   rw[shl1]
   by_cases h:(r:Int)≥32768
   ·rw[decide_eq_true h,cond_true,show (4129:Int)=((4129:Nat):Int) from rfl,V3e (by omega) (by omega)]
    have:r / 32768=1:=by omega
    unfold sh1
    rw[this]
   ·rw[decide_eq_false h,cond_false]
    have:r / 32768=0:=by omega
    unfold sh1
    rw[this,Nat.zero_mul,Nat.xor_zero]
  refine wp_seq (wp_block ((A0e B0n _ _ ((gr9 s i r k).trans e)).stand (oG4 ..) h2 fun a3 w3 h3=>?_))
  refine (A0e B0n _ _ (gr8 _ _ _ _)).stand (oG4 ..) h3 fun a4 w4 h4=>?_
  have hw:IntKind.i64.wrap ((k:Int)+1)=((k+1:Nat):Int):=by rw[C0k];omega
  rw[hw]at h4
  exact ih (k+1) (sh1 r) a4 w4 (by omega) (R0v hr) hQ h4
theorem Q2c{w0:World}{F:Nat→Prop}{s:ByteArray}(hsz:s.size≤4611686018427387904){Q:Exit→Act→World→Prop}(hQ:∀a' w',A0t F w0 32 (gS (gV s.size (crcF s.data.toList 65535:Nat)) s) a' w'→Q (.exit 0) a' w') :
  ∀(m i:Nat) (act:Act) (w:World),i+m=s.size→A0t F w0 32 (gS (gV i (crcF (s.data.toList.take i) 65535:Nat)) s) act w→Code.rounds Tryz.prog gL Q (m+1) act w:=by
 have hlen:s.data.toList.length=s.size:=rfl
 intro m
 induction m with
 | zero =>
  intro i act w hi hst
  rw[rounds_succ,A4t]
  refine wp_seq (wp_seq ((A0e B0n _ _ (gr3 _ _ _)).stand (oG3 ..) hst fun a1 w1 h1=>?_))
  have hb:decide ((i:Int)<(s.size:Int))=false:=decide_eq_false (by omega)
  rw[hb]at h1
  refine wp_cond_false (h1.eval (t:=10) rfl) (wp_exit ?_)
  have hi':i=s.size:=by omega
  subst hi'
  rw[← hlen,List.take_length]at h1
  refine hQ a1 w1 (h1.weak ?_ (Nat.le_refl _) (Nat.le_refl _))
  rw[← wG3 _ _ _ false]
  exact C0e _ _ _
 | succ m ih =>
  intro i act w hi hst
  rw[rounds_succ,A4t]
  refine wp_seq (wp_seq ((A0e B0n _ _ (gr3 _ _ _)).stand (oG3 ..) hst fun a1 w1 h1=>?_))
  have hb:decide ((i:Int)<(s.size:Int))=true:=decide_eq_true (by omega)
  rw[hb]at h1
  refine wp_cond_true (h1.eval (t:=10) rfl) (wp_skip ?_)
  have h2:A0t F w0 32 (gS (gV i (crcF (s.data.toList.take i) 65535:Nat)) s) a1 w1:=by
   refine h1.weak ?_ (Nat.le_refl _) (Nat.le_refl _)
   rw[← wG3 _ _ _ true]
   exact C0e _ _ _
  generalize hr:crcF (s.data.toList.take i) 65535=r at h2
  have hrl:r<65536:=by rw[← hr];exact W0g _ _ (by omega)
  generalize hcc:(s.data.toList.getD i 0)=c
  have hcl:c.toNat<256:=c.toNat_lt
  refine wp_seq (wp_block (wp_seq (wp_region ?_)))
  rw[k5_n]
  have hil:i<s.size:=by omega
  refine K0g k5_0 (by omega) (lG2 ..) h2 (v:=.int .u16 r) (h2.eval (t:=3) rfl) _ fun a3 h3=>?_
  refine K0g k5_1 (by omega) (by rw[List.length_set];exact lG2 ..) h3 (v:=.string s) (h3.eval (t:=0) rfl) _ fun a4 h4=>?_
  refine K0g k5_2 (by omega) (by rw[List.length_set,List.length_set];exact lG2 ..) h4 (v:=.int .i64 i) (h4.eval (t:=4) rfl) _ fun a5 h5=>?_
  refine X0e k5_3 (by omega) (by rw[List.length_set,List.length_set,List.length_set];exact lG2 ..) h5 (v:=.int .u8 c.toNat) (fun o ho=>?_) _ fun a6 h6=>?_
  ·have hx:a5.eval (.tmp 14)=.string s:=h5.eval (t:=14) rfl
   have hy:a5.eval (.tmp 15)=.int .i64 i:=h5.eval (t:=15) rfl
   simp only[execOp,ho,hx,hy,Sem.run_bind,P0b (i:=i) v9 hil,Result.andThen_ok,Sem.run_pure,hcc]
  refine D0p (B0n _) (qf:=B0p ([]:Gam)) [] _ (gr5 s i r c.toNat (.string s) (.int .i64 i)) (fun _ _ hj=>D0k hj) (oG2 ..) h6 [] fun a7 w7 h7=>?_
  have e:xorV .u16 (r:Int) (IntKind.u16.wrap (IntKind.u16.wrap (c.toNat:Int)*2^8))=((r ^^^ (c.toNat*256):Nat):Int):=by
   rw[Y0q,Nat.mod_eq_of_lt (by omega),shl8,Nat.mod_eq_of_lt (by omega),V3e hrl (by omega)]
  rw[e]at h7
  have hxl:(r ^^^ (c.toNat*256))<65536:=Nat.xor_lt_two_pow (n:=16) (by omega) (by omega)
  refine wp_seq ((A0e B0n _ _ (gr6 _ _ _)).stand (oG4 ..) h7 fun a8 w8 h8=>?_)
  refine wp_block (wp_loop_rounds 9 (D2u 8 0 _ a8 w8 rfl hxl (fun a9 w9 h9=>?_) h8))
  have e3:shN 8 (r ^^^ (c.toNat*256))=crcF (s.data.toList.take (i+1)) 65535:=by
   rw[shN8,T1b (by omega),M1y,hr,hcc]
   rfl
  rw[e3]at h9
  refine (A0e B0n _ _ (gr4 _ _ _)).stand (oG2 ..) h9 fun a10 w10 h10=>?_
  have hw:IntKind.i64.wrap ((i:Int)+1)=((i+1:Nat):Int):=by rw[C0k];omega
  rw[hw]at h10
  exact ih (i+1) a10 w10 (by omega) h10
theorem Q2b(s:ByteArray)(hsz:s.size≤4611686018427387904)(w:World):Calls Tryz.prog 192 #[.string s] w fun e w'=>∃v,e=.returned v∧RowKit.Below w.heap.size w w'∧v=.int .u16 (crcF s.data.toList 65535:Nat):=by
 refine calls_of_wp A4a B5u ?_
 have hst:=A0t.start (N:=32) [.string s] w 4096 frH frT (by simp)
 refine wp_seq ((A0e B0n _ _ (gr0 s)).stand (oG0 s) hst fun a1 w1 h1=>?_)
 refine wp_seq ((A0e B0n _ _ (gr1 s)).stand (oG1 ..) h1 fun a2 w2 h2=>?_)
 refine wp_seq (wp_seq ((A0e B0n _ _ (gr2 s)).stand (oG2 ..) h2 fun a3 w3 h3=>?_))
 refine wp_block (wp_loop_rounds (s.size+1) (Q2c hsz (fun a8 w8 h8=>?_) s.size 0 a3 w3 (by omega) h3))
 refine (A0e B0n _ _ (grE _ _ _)).stand (oGE ..) h8 fun a9 w9 h9=>?_
 obtain ⟨y1,y2,y3⟩:=h9.results (P:=Tryz.prog) (fn:=Tryz.f192) (gRes _)
 exact bodyPost_ret y1 y2 ⟨_,rfl,y3.below,rfl⟩
def szOk(p:ByteArray×Unit):Bool:=decide (p.1.size≤4611686018427387904)
def crcN(p:ByteArray×Unit):N16:=⟨crcF p.1.data.toList 65535⟩
theorem J5z:A0h Tryz.prog 231 (S0w szOk crcN):=X0x fun a w h=>R1a a.1 (of_decide_eq_true h) w
theorem J5w:A0h Tryz.prog 192 (S0w szOk crcN):=X0x fun a w h=>Q2b a.1 (of_decide_eq_true h) w
structure Fr where
 kind:Int
 data:ByteArray
instance:Cod Fr where
 enc x:=.agg #[.int .i64 x.kind,.string x.data]
 dec v:=match v with | .agg ⟨[.int .i64 k,.string d]⟩=>some ⟨k,d⟩ | _=>none
 law v a h:=by split at h<;>simp_all;subst h;simp
section
variable {P:Program} {N:Nat} {ops:Array Oper} {Q:Exit→Act→World→Prop} {F:Nat→Prop} {w0:World} {s:St} {a:Act} {w:World}
theorem Z0q(w:World)(o:Obj)(j:Nat)(hj:j<w.heap.size):(w.alloc o).heap[j]?=w.heap[j]?:=by
 show (w.heap.push o)[j]?=_
 rw[Array.getElem?_push_lt hj,Array.getElem?_eq_getElem hj]
theorem T0b{k d len:Nat}{t elem:TypeId}{parts:Array (Nat×Operand)}{vals:List (Nat×Value)}{cells:List Value}(hs:B0a ops k=some (.buildSlice t len parts,some d,true))(hd:d<N)(hlen:s.tmps.length=N)(hh:A0t F w0 N s a w)
  (hv:parts.toList.map (fun p=>(p.1,a.eval p.2))=vals) (hc:H0x P t len vals=some (elem,cells)) (rest:List Nat)
  (hK:∀a',A0t (Wide F w (w.alloc (.cells (List.toArray cells) elem))) (w.alloc (.cells (List.toArray cells) elem)) N {s with tmps:=s.tmps.set d (.val (.slice (some ⟨w.heap.size,0,none⟩) len len))} a' (w.alloc (.cells (List.toArray cells) elem))→wpOps P ops Q rest a' (w.alloc (.cells (List.toArray cells) elem))):wpOps P ops Q (k :: rest) a w:=by
 refine K1v hs hd hlen hh (fun o ho=>?_) (by show w.heap.size≤(w.heap.push _).size;rw[Array.size_push];omega) (fun j hj _=>Z0q w _ j hj) rest hK
 have e1:(parts.map fun (x:Nat×Operand)=>(x.1,a.eval x.2))=List.toArray vals:=by
  rw[← hv]
  apply Array.toList_inj.1
  simp
 have e2:=M0c (P:=P) hc w
 rw[← e1]at e2
 simp only[execOp,ho,Sem.run_bind,e2]
 rfl
theorem P0n{k d:Nat}{x y:Operand}{ts:Array TypeId}{v v' u:Value}{w':World}(hs:B0a ops k=some (.call {callee:=.builtin .append,args:=#[x,y],argTypes:=ts},some d,true))(hd:d<N)(hlen:s.tmps.length=N)(hh:A0t F w0 N s a w)
  (hx:a.eval x=v) (hy:a.eval y=u) (hrun:∀ty,(Builtin.append_ ts ty #[v,u]).run P w=.ok v' w') (hg:w.grownBy w' v.ownBlock) (hF:∀r,v.ownBlock=some r→F r) (rest:List Nat)
  (hK:∀a',A0t (Wide F w w') w' N {s with tmps:=s.tmps.set d (.val v')} a' w'→wpOps P ops Q rest a' w'):wpOps P ops Q (k :: rest) a w:=by
 refine K1v hs hd hlen hh (fun o ho=>?_) hg.size (fun j hj hFj=>hg.block j hj fun e=>hFj (hF j e.symm)) rest hK
 have e:∀f:Value→Value,(#[x,y].map a.eval)=#[v,u]:=fun _=>by simp[hx,hy]
 simp only[execOp,ho,resolve,invoke,Go.builtin,Sem.run_bind,Sem.run_pure,Result.andThen_ok,hx,hy,List.map_toArray,List.map_cons,List.map_nil,hrun]
end
theorem B2m(w:World)(e:TypeId)(cells:List Value)(n:Nat)(hn:cells.length=n)(hm:n≤maxLen):(w.alloc (.cells (List.toArray cells) e)).ownsRow w.heap.size e 1 (.slice (some ⟨w.heap.size,0,none⟩) n n) n cells:=by
 refine ⟨by omega,.inr ⟨w.heap.size,n,List.toArray cells,rfl,Nat.le_refl _,?_,Nat.le_refl _,hm,by simp[hn],by simp[← hn]⟩⟩
 show (w.heap.push _)[w.heap.size]?=_
 simp
theorem Y0a{P:Program}{w:World}{g off len cap:Nat}{src dst e e':TypeId}{cur:Array Value}{ns:List Int}(hs:P.underlying src=some (.slice e))(he:P.underlying e=some (.int .u8))(hd:P.underlying dst=some .string)
  (hg:w.heap[g]?=some (.cells cur e' (0,0))) (hx:(cur.toList.drop off).take len=ns.map (Value.int .u8)) (hl:ns.length=len) :
  (convert src dst (.slice (some ⟨g,off,none⟩) len cap)).run P w=.ok (.string (ns.foldl R0j ByteArray.empty)) w:=by
 have hload:=E0a (P:=P) w g off len e' (0,0) cur.toList _ hg hx (by simpa using hl)
 rw[run_convert_bytes_string w src dst e _ _ _ hs he hd,run_bytesToString w _ _ _ ns hload]
 rfl
section
variable {P:Program} (w:World)
def B3c(w:World)(v v':Value):Prop:=∀r,v'.ownBlock=some r→v.ownBlock=some r∨w.heap.size≤r
theorem P0m(t ty e:TypeId)(i:TypeInfo)(z:Value)(size bytes:Nat)(ht:P.underlying t=some (.slice e))(hi:P.info? e=some i)(hz:i.zero=some z)
  (hsize:i.size=size) (hby:i.bytes=bytes) (hzs:z.cells.size=size) (hsz:0<size) (base:Nat)
  (v:Value) (n:Nat) (xs:List Value) (hown:w.ownsRow base e size v n xs)
  (a:Addr) (m c:Nat) (news:List Value) (hl:news.length=m*size) (hnews:∀j u,news[j]?=some u→w.cell? (a.add j)=some u) (h1:∀u∈news,u.oneCell'=true)
  (h63:n+m≤maxLen) (hbytes:(n+m)*bytes≤140737488355328) (hbase:base≤w.heap.size) :
  ∃v' w',(∀ty,(Builtin.append_ #[t,t] ty #[v,.slice (some a) m c]).run P w=.ok v' w')∧w'.ownsRow base e size v' (n+m) (xs++news)∧w.grownBy w' v.ownBlock∧B3c w v v':=by
 obtain ⟨v',w',hr,h2,h3,h4⟩:=run_append_own (P:=P) w base t ty e i z size bytes ht hi hz hsize hby hzs hsz v n xs hown a m c news hl hnews h1 h63 hbytes hbase
 refine ⟨v',w',fun ty=>hr,h2,h3,?_⟩
 subst hsize
 subst hby
 have hsmall:n+m≤9223372036854775807:=by simp only[maxLen]at h63;omega
 rcases hown.2 with ⟨rfl,rfl⟩ | ⟨g,cap,cur,rfl,hbg,hg,hnc,hcm,hcs,htake⟩
 ·by_cases hm:m=0
  ·have :=h4.2 ⟨rfl,hm⟩
   subst this
   intro r hr';cases hr'
  ·have hq:=run_append_nil (P:=P) w t ty e i z ht hi hz a m c news hl hnews (by omega) (by omega) (by have hb:=hbytes;simp only[Nat.zero_add]at hb;omega)
   rw[hq]at hr
   cases hr
   intro r hr';cases hr';exact .inr (Nat.le_refl _)
 ·by_cases hroom:n+m≤cap
  ·have hfit:n*i.size+news.length≤cur.size:=by rw[hl,hcs,← Nat.add_mul];exact Nat.mul_le_mul_right _ hroom
   have hq:=run_append_room (P:=P) w t ty e i ht hi g n cap cur hg a m c news hl hnews h1 hroom hfit
   rw[hq]at hr
   cases hr
   intro r hr';exact .inl hr'
  ·have holds:∀j u,xs[j]?=some u→w.cell? ((⟨g,0,none⟩:Addr).add j)=some u:=hown.cells (g:=g) rfl
   have hq:=run_append_grow (P:=P) w t ty e i z ht hi hz ⟨g,0,none⟩ n cap xs hown.1 holds a m c news hl hnews (by omega) (by omega) (growslice_fits (by omega) hbytes)
   rw[hq]at hr
   cases hr
   intro r hr';cases hr';exact .inr (Nat.le_refl _)
theorem T0a(t u ty e:TypeId)(i:TypeInfo)(ht:P.underlying t=some (.slice e))(hu:P.underlying u=some .string)(hi:P.info? e=some i)(hz:i.zero=some (.int .u8 0))
  (hsize:i.size=1) (hby:i.bytes=1) (base:Nat) (v:Value) (n:Nat) (xs:List Value) (hown:w.ownsRow base e 1 v n xs) (hv:0<n) (s:ByteArray)
  (h63:n+s.size≤maxLen) (hbytes:n+s.size≤140737488355328) (hbase:base≤w.heap.size) :
  ∃v' w',(∀ty,(Builtin.append_ #[t,u] ty #[v,.string s]).run P w=.ok v' w')∧w'.ownsRow base e 1 v' (n+s.size) (xs++Lib.strCells s)∧w.grownBy w' v.ownBlock∧B3c w v v':=by
 obtain ⟨v',w',hr,h2,h3,h4⟩:=Lib.run_append_own_string (P:=P) w base t u ty e i ht hu hi hz hsize hby v n xs hown s h63 hbytes hbase
 refine ⟨v',w',fun ty=>hr,h2,h3,?_⟩
 rcases hown.2 with ⟨rfl,rfl⟩ | ⟨g,cap,cur,rfl,hbg,hg,hnc,hcm,hcs,htake⟩
 ·omega
 ·by_cases hroom:n+s.size≤cap
  ·have hcs':cur.size=cap:=by simpa using hcs
   have hq:=Lib.run_append_room_string (P:=P) w t u ty e i ht hu hi hsize g n cap cur hg s hroom (by omega)
   rw[hq]at hr
   cases hr
   intro r hr';exact .inl hr'
  ·have holds:∀j u,xs[j]?=some u→w.cell? ((⟨g,0,none⟩:Addr).add j)=some u:=hown.cells (g:=g) rfl
   have hq:=Lib.run_append_grow_string (P:=P) w t u ty e i (.int .u8 0) ht hu hi hz ⟨g,0,none⟩ n cap xs (by rw[hsize];exact hown.1) holds s (by omega) (by simp only[maxLen]at h63;omega) (by rw[hby];exact growslice_fits (by omega) (by omega))
   rw[hq]at hr
   cases hr
   intro r hr';cases hr';exact .inr (Nat.le_refl _)
end
theorem A0t.resultsV{P:Program}{fn:Func}{F:Nat→Prop}{w0:World}{N:Nat}{s:St}{a:Act}{w:World}(h:A0t F w0 N s a w){ls:List AV}{v:Value}(hr:resA P s fn.results.toList=some ls)(hp:pack ls=.val v) :
  (Go.results fn a.tmps).run P w=.ok v w∧a.defers=[]∧Keep F w0 w:=by
 obtain ⟨σ,h1,h2,_⟩:=h
 obtain ⟨x,h3,h4,h5⟩:=h1.results hr
 rw[hp]at h4
 simp only[Rel]at h4
 subst h4
 exact ⟨h3,h5,h2⟩
noncomputable def wC:Code:=Tryz.f178.body.getD .skip
noncomputable def wp0:Code:=seqL wC
noncomputable def wp1:Code:=seqL (seqR wC)
noncomputable def wT:Code:=seqR (seqR wC)
noncomputable def wO3:Array Oper:=regO (seqL wT)
noncomputable def wO4:Array Oper:=regO (seqL (seqR wT))
noncomputable def wO5:Array Oper:=regO (seqL (seqR (seqR wT)))
theorem U4y:Tryz.f178.body=some (.seq wp0 (.seq wp1 (.seq (.region 3 wO3 false) (.seq (.region 4 wO4 false) (.seq (.region 5 wO5 false) .ret))))):=by kernel_rfl
def wS(k:Int)(s:ByteArray)(sl:List (Nat×Value)):St:=mkSt 44 (sl.map (·.1)) (sl.map (·.2)) [(1,4096,0)] [(4096,74,2)] [.int .i64 k,.string s] fr2 frH frT
def zwE(l:List (Nat×Value)):St:=mkSt 44 (l.map (·.1)) (l.map (·.2)) [] [] [] fr2 frH frT
theorem zwq0(k:Int)(s:ByteArray):C0t [] 44 wp0 ⟨[Value.agg #[.int .i64 k,.string s]].map .val++List.replicate (44-[Value.agg #[.int .i64 k,.string s]].length) (.val undef),[],4096,frH,frT,[]⟩ [4096] [1]=some (.normal,wS k s []):=by kernel_rfl
theorem zwq1(k:Int)(s:ByteArray):C0t [] 44 wp1 (wS k s []) [4096] [1,2,3] =
  bif decide (k<0) then some (.ret,wS k s [(2,.string ⟨#[]⟩),(3,.bool false)]) else bif bif false then true else decide (k>255) then some (.ret,wS k s [(2,.string ⟨#[]⟩),(3,.bool false)]) else
   bif bif false then true else decide ((s.size:Int)>64) then some (.ret,wS k s [(2,.string ⟨#[]⟩),(3,.bool false)]) else some (.normal,{wS k s []with tmps:=(wS k s []).tmps}):=by kernel_rfl
theorem wq3(k:Int)(s:ByteArray):U0u 44 wO3 (wO3.toList.take 7) (wS k s []) [4096] [1,22,26]=some (true,wS k s [(22,.int .u8 (IntKind.u8.wrap k)),(26,.int .u8 (IntKind.u8.wrap s.size))]):=by kernel_rfl
theorem wq3b(k x y:Int)(s:ByteArray)(v:Value):U0u 44 wO3 ((wO3.toList.drop 8).take 2) {wS k s [(22,.int .u8 x),(26,.int .u8 y)]with tmps:=(wS k s [(22,.int .u8 x),(26,.int .u8 y)]).tmps.set 27 (.val v)} [4096] [1,27,29]=some (true,wS k s [(27,v),(29,.string s)]):=by kernel_rfl
theorem wq3c(k:Int)(s:ByteArray)(v:Value)(a:Option Addr)(n cap:Nat):U0u 44 wO3 (wO3.toList.drop 11) {wS k s [(27,v),(29,.string s)]with tmps:=(wS k s [(27,v),(29,.string s)]).tmps.set 30 (.val (.slice a n cap))} [4096] [1,4]=some (true,wS k s [(4,.slice a n cap)]):=by kernel_rfl
theorem wq4(k:Int)(s:ByteArray)(u x y z:Value)(c:Int):U0u 44 wO4 (wO4.toList.drop 4) {wS k s [(4,u)]with tmps:=((((wS k s [(4,u)]).tmps.set 31 (.val x)).set 32 (.val y)).set 33 (.val z)).set 34 (.val (.int .u16 c))} [4096] [1,4,5]=some (true,wS k s [(4,u),(5,.int .u16 c)]):=by kernel_rfl
theorem wq5(k c:Int)(s:ByteArray)(a:Option Addr)(n cap:Nat):U0u 44 wO5 (wO5.toList.take 6) (wS k s [(4,.slice a n cap),(5,.int .u16 c)]) [4096] [1,35,38,40]=some (true,wS k s [(35,.slice a n cap),(38,.int .u8 (IntKind.u8.wrap (c.fdiv (2^8)))),(40,.int .u8 (IntKind.u8.wrap c))]):=by kernel_rfl
theorem wq5b(k x y:Int)(s r:ByteArray)(u v z:Value):U0u 44 wO5 (wO5.toList.drop 9) {wS k s [(35,u),(38,.int .u8 x),(40,.int .u8 y)]with tmps:=(((wS k s [(35,u),(38,.int .u8 x),(40,.int .u8 y)]).tmps.set 41 (.val v)).set 42 (.val z)).set 43 (.val (.string r))} [] [2,3]=some (true,zwE [(2,.string r),(3,.bool true)]):=by kernel_rfl
theorem wqR(r:ByteArray)(b:Bool):resA Tryz.prog (zwE [(2,.string r),(3,.bool b)]) Tryz.f178.results.toList=some [.val (.string r),.val (.bool b)]:=by kernel_rfl
theorem wqR'(k:Int)(s r:ByteArray)(b:Bool):resA Tryz.prog (wS k s [(2,.string r),(3,.bool b)]) Tryz.f178.results.toList=some [.val (.string r),.val (.bool b)]:=by kernel_rfl
theorem wpk(r:ByteArray)(b:Bool):pack [.val (.string r),.val (.bool b)]=.val (.tuple #[.string r,.bool b]):=by kernel_rfl
theorem t3_7:B0a wO3 7=some (.buildSlice 227 3 #[(0,.const (.int .u8 (Int.ofNat 165))),(1,.tmp 22),(2,.tmp 26)],some 27,true):=by kernel_rfl
theorem N5c:B0a wO3 10=some (.call {callee:=.builtin .append,args:=#[.tmp 27,.tmp 29],argTypes:=#[227,9]},some 30,true):=by kernel_rfl
theorem t3_n:List.range wO3.size=(List.range (wO3.toList.take 7).length).map (0+·)++(7 :: ((List.range ((wO3.toList.drop 8).take 2).length).map (8+·)++(10 :: ((List.range (wO3.toList.drop 11).length).map (11+·)++[])))):=by kernel_rfl
theorem t4_0:B0a wO4 0=some (.move (.tmp 4),some 31,true):=by kernel_rfl
theorem t4_1:B0a wO4 1=some (.slice 227 (.tmp 31) (some (.const (.int .i64 (Int.ofNat 1)))) none none,some 32,true):=by kernel_rfl
theorem t4_2:B0a wO4 2=some (.convert 227 9 (.tmp 32),some 33,true):=by kernel_rfl
def cSum:Call:={callee:=.value (.func 231),args:=#[.tmp 33],argTypes:=#[9]}
theorem t4_3:B0a wO4 3=some (.call cSum,some 34,true):=by kernel_rfl
theorem t4_n:List.range wO4.size=0 :: 1 :: 2 :: 3 :: ((List.range (wO4.toList.drop 4).length).map (4+·)++[]):=by kernel_rfl
theorem t5_6:B0a wO5 6=some (.buildSlice 227 2 #[(0,.tmp 38),(1,.tmp 40)],some 41,true):=by kernel_rfl
theorem t5_7:B0a wO5 7=some (.call {callee:=.builtin .append,args:=#[.tmp 35,.tmp 41],argTypes:=#[227,227]},some 42,true):=by kernel_rfl
theorem t5_8:B0a wO5 8=some (.convert 227 9 (.tmp 42),some 43,true):=by kernel_rfl
theorem t5_n:List.range wO5.size=(List.range (wO5.toList.take 6).length).map (0+·)++(6 :: 7 :: 8 :: ((List.range (wO5.toList.drop 9).length).map (9+·)++[])):=by kernel_rfl
section
variable (k x y c:Int) (s r:ByteArray) (u v z:Value) (b:Bool)
theorem ow0:A0g (wS k s [])=true:=by kernel_rfl
theorem ow1:A0g (wS k s [(2,.string r),(3,.bool b)])=true:=by kernel_rfl
theorem ow2:A0g (wS k s [(22,.int .u8 x),(26,.int .u8 y)])=true:=by kernel_rfl
theorem ow3:A0g (wS k s [(27,v),(29,.string s)])=true:=by kernel_rfl
theorem ow4:A0g (wS k s [(4,u)])=true:=by kernel_rfl
theorem ow5:A0g (wS k s [(4,u),(5,v)])=true:=by kernel_rfl
theorem ow6:A0g (wS k s [(35,u),(38,.int .u8 x),(40,.int .u8 y)])=true:=by kernel_rfl
theorem ow7:A0g (zwE [(2,.string r),(3,.bool b)])=true:=by kernel_rfl
theorem lw0:(wS k s []).tmps.length=44:=by kernel_rfl
theorem lw2:(wS k s [(22,.int .u8 x),(26,.int .u8 y)]).tmps.length=44:=by kernel_rfl
theorem lw3:(wS k s [(27,v),(29,.string s)]).tmps.length=44:=by kernel_rfl
theorem lw4:(wS k s [(4,u)]).tmps.length=44:=by kernel_rfl
theorem lw6:(wS k s [(35,u),(38,.int .u8 x),(40,.int .u8 y)]).tmps.length=44:=by kernel_rfl
end
end Go.Ab
