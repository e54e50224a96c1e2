/- A part of the proof of 'CraftHolds': lemmas, no statement of their own; no condition. -/
import Derived.Test.YtoocjipllmkjcaaGreatGFuC0
import Derived.Test.YtoocjipllmkjcaaGreatProg
namespace Go.Ab
open Go Go.Proofs
def Q0c(N:Nat)(ts:List Nat):List Nat:=(nums 0 N).filter fun i=>!hasN ts i
def anyA:Nat→AV:=fun _=>.any
def mkSt(N:Nat)(sl:List Nat)(vs:List Value)(fx:List (Nat×Nat×Nat))(rows:D3q)(rv:List Value)(lo hi st:Nat):St:=lvSt N sl fx (Q0c N (sl++fx.map (·.1))) rows (vs++rv) anyA lo hi st
abbrev fr2:Nat:=1532495540865888858358347027150309183618739122183606272
abbrev frL:Nat:=3064991081731777716716694054300618367237478244367208448
abbrev frH:Nat:=1606938044258990275541962092341162602522202993782792835305472
abbrev frT:Nat:=1532495540865888858358347027150309183618739122183602176
noncomputable abbrev C0t(G:Gam)(N:Nat)(c:Code)(s:St)(keep:List Nat)(ts:List Nat):Option (Ex×St):=run Tryz.prog (B0v Tryz.prog {gam:=G} 1) N {quiet:=B0p G} [] 50 (Ex×St) c s (fun e s=>some (e,G0k keep (Q0c N ts) s))
noncomputable def tC:Code:=Tryz.f247.body.getD .skip
noncomputable def tc0:Code:=seqL tC
noncomputable def tc1:Code:=seqL (seqR tC)
noncomputable def tc2:Code:=seqL (seqL (seqR (seqR tC)))
noncomputable def tB:Code:=inB (inB (seqR (seqL (seqR (seqR tC)))))
noncomputable def tcE:Code:=seqR (seqR (seqR tC))
theorem N5d:Tryz.f247.body=some (.seq tc0 (.seq tc1 (.seq (.seq tc2 (.block 0 (.loop tB))) tcE))):=by kernel_rfl
def tabN:List Nat:=(nums 0 256).map fun i=>sh8 (i*256)
def u16s(l:List Nat):List Value:=l.map fun (x:Nat)=>.int .u16 x
def tZ(k:Nat):List Value:=List.replicate k (.int .u16 0)
def tS(i:Nat):St:=mkSt 24 [4] [.int .i64 i] [(0,4096,0),(1,fr2,0)] [(4096,284,256),(fr2,284,256)] (tZ 256++(u16s (tabN.take i)++tZ (256-i))) frL frH frT
theorem tb0:C0t [] 24 tc0 ⟨([]:List Value).map .val++List.replicate (24-([]:List Value).length) (.val undef),[],4096,frH,frT,[]⟩ [4096] [0]=some (.normal,mkSt 24 [] [] [(0,4096,0)] [(4096,284,256)] (tZ 256) fr2 frH frT):=by kernel_rfl
theorem tb1:C0t [] 24 tc1 (mkSt 24 [] [] [(0,4096,0)] [(4096,284,256)] (tZ 256) fr2 frH frT) [4096,fr2] [0,1]=some (.normal,mkSt 24 [] [] [(0,4096,0),(1,fr2,0)] [(4096,284,256),(fr2,284,256)] (tZ 256++tZ 256) frL frH frT):=by kernel_rfl
theorem tb2:C0t [] 24 tc2 (mkSt 24 [] [] [(0,4096,0),(1,fr2,0)] [(4096,284,256),(fr2,284,256)] (tZ 256++tZ 256) frL frH frT) [4096,fr2] [0,1,4]=some (.normal,tS 0):=by kernel_rfl
noncomputable def C0q(i:Nat):Option (Ex×St):=C0t [] 24 tB (tS i) [4096,fr2] [0,1,4]
theorem tr_0:(nums 0 8).map (fun i=>(C0q i,A0g (tS (i+1))))=(nums 0 8).map fun i=>(some (.normal,tS (i+1)),true):=by kernel_rfl
theorem tr_1:(nums 8 8).map (fun i=>(C0q i,A0g (tS (i+1))))=(nums 8 8).map fun i=>(some (.normal,tS (i+1)),true):=by kernel_rfl
theorem tr_2:(nums 16 8).map (fun i=>(C0q i,A0g (tS (i+1))))=(nums 16 8).map fun i=>(some (.normal,tS (i+1)),true):=by kernel_rfl
theorem tr_3:(nums 24 8).map (fun i=>(C0q i,A0g (tS (i+1))))=(nums 24 8).map fun i=>(some (.normal,tS (i+1)),true):=by kernel_rfl
theorem tr_4:(nums 32 8).map (fun i=>(C0q i,A0g (tS (i+1))))=(nums 32 8).map fun i=>(some (.normal,tS (i+1)),true):=by kernel_rfl
theorem tr_5:(nums 40 8).map (fun i=>(C0q i,A0g (tS (i+1))))=(nums 40 8).map fun i=>(some (.normal,tS (i+1)),true):=by kernel_rfl
theorem tr_6:(nums 48 8).map (fun i=>(C0q i,A0g (tS (i+1))))=(nums 48 8).map fun i=>(some (.normal,tS (i+1)),true):=by kernel_rfl
theorem tr_7:(nums 56 8).map (fun i=>(C0q i,A0g (tS (i+1))))=(nums 56 8).map fun i=>(some (.normal,tS (i+1)),true):=by kernel_rfl
theorem tr_8:(nums 64 8).map (fun i=>(C0q i,A0g (tS (i+1))))=(nums 64 8).map fun i=>(some (.normal,tS (i+1)),true):=by kernel_rfl
theorem tr_9:(nums 72 8).map (fun i=>(C0q i,A0g (tS (i+1))))=(nums 72 8).map fun i=>(some (.normal,tS (i+1)),true):=by kernel_rfl
theorem P5j:(nums 80 8).map (fun i=>(C0q i,A0g (tS (i+1))))=(nums 80 8).map fun i=>(some (.normal,tS (i+1)),true):=by kernel_rfl
theorem P5k:(nums 88 8).map (fun i=>(C0q i,A0g (tS (i+1))))=(nums 88 8).map fun i=>(some (.normal,tS (i+1)),true):=by kernel_rfl
theorem P5m:(nums 96 8).map (fun i=>(C0q i,A0g (tS (i+1))))=(nums 96 8).map fun i=>(some (.normal,tS (i+1)),true):=by kernel_rfl
theorem P5n:(nums 104 8).map (fun i=>(C0q i,A0g (tS (i+1))))=(nums 104 8).map fun i=>(some (.normal,tS (i+1)),true):=by kernel_rfl
theorem P5p:(nums 112 8).map (fun i=>(C0q i,A0g (tS (i+1))))=(nums 112 8).map fun i=>(some (.normal,tS (i+1)),true):=by kernel_rfl
theorem P5q:(nums 120 8).map (fun i=>(C0q i,A0g (tS (i+1))))=(nums 120 8).map fun i=>(some (.normal,tS (i+1)),true):=by kernel_rfl
theorem P5r:(nums 128 8).map (fun i=>(C0q i,A0g (tS (i+1))))=(nums 128 8).map fun i=>(some (.normal,tS (i+1)),true):=by kernel_rfl
theorem P5t:(nums 136 8).map (fun i=>(C0q i,A0g (tS (i+1))))=(nums 136 8).map fun i=>(some (.normal,tS (i+1)),true):=by kernel_rfl
theorem P5u:(nums 144 8).map (fun i=>(C0q i,A0g (tS (i+1))))=(nums 144 8).map fun i=>(some (.normal,tS (i+1)),true):=by kernel_rfl
theorem P5v:(nums 152 8).map (fun i=>(C0q i,A0g (tS (i+1))))=(nums 152 8).map fun i=>(some (.normal,tS (i+1)),true):=by kernel_rfl
theorem P5w:(nums 160 8).map (fun i=>(C0q i,A0g (tS (i+1))))=(nums 160 8).map fun i=>(some (.normal,tS (i+1)),true):=by kernel_rfl
theorem P5x:(nums 168 8).map (fun i=>(C0q i,A0g (tS (i+1))))=(nums 168 8).map fun i=>(some (.normal,tS (i+1)),true):=by kernel_rfl
theorem P5y:(nums 176 8).map (fun i=>(C0q i,A0g (tS (i+1))))=(nums 176 8).map fun i=>(some (.normal,tS (i+1)),true):=by kernel_rfl
theorem P5z:(nums 184 8).map (fun i=>(C0q i,A0g (tS (i+1))))=(nums 184 8).map fun i=>(some (.normal,tS (i+1)),true):=by kernel_rfl
theorem Q5a:(nums 192 8).map (fun i=>(C0q i,A0g (tS (i+1))))=(nums 192 8).map fun i=>(some (.normal,tS (i+1)),true):=by kernel_rfl
theorem Q5b:(nums 200 8).map (fun i=>(C0q i,A0g (tS (i+1))))=(nums 200 8).map fun i=>(some (.normal,tS (i+1)),true):=by kernel_rfl
theorem Q5c:(nums 208 8).map (fun i=>(C0q i,A0g (tS (i+1))))=(nums 208 8).map fun i=>(some (.normal,tS (i+1)),true):=by kernel_rfl
theorem Q5d:(nums 216 8).map (fun i=>(C0q i,A0g (tS (i+1))))=(nums 216 8).map fun i=>(some (.normal,tS (i+1)),true):=by kernel_rfl
theorem Q5e:(nums 224 8).map (fun i=>(C0q i,A0g (tS (i+1))))=(nums 224 8).map fun i=>(some (.normal,tS (i+1)),true):=by kernel_rfl
theorem Q5g:(nums 232 8).map (fun i=>(C0q i,A0g (tS (i+1))))=(nums 232 8).map fun i=>(some (.normal,tS (i+1)),true):=by kernel_rfl
theorem Q5h:(nums 240 8).map (fun i=>(C0q i,A0g (tS (i+1))))=(nums 240 8).map fun i=>(some (.normal,tS (i+1)),true):=by kernel_rfl
theorem Q5j:(nums 248 8).map (fun i=>(C0q i,A0g (tS (i+1))))=(nums 248 8).map fun i=>(some (.normal,tS (i+1)),true):=by kernel_rfl
theorem Q4x:C0t [] 24 tB (tS 256) [4096,fr2] [0,1]=some (.exit 0,mkSt 24 [] [] [(0,4096,0),(1,fr2,0)] [(4096,284,256),(fr2,284,256)] (tZ 256++u16s tabN) frL frH frT):=by kernel_rfl
theorem tbE:C0t [] 24 tcE (mkSt 24 [] [] [(0,4096,0),(1,fr2,0)] [(4096,284,256),(fr2,284,256)] (tZ 256++u16s tabN) frL frH frT) [4096] [0]=some (.ret,mkSt 24 [] [] [(0,4096,0)] [(4096,284,256)] (u16s tabN) frL frH frT):=by kernel_rfl
theorem tRes:resA Tryz.prog (mkSt 24 [] [] [(0,4096,0)] [(4096,284,256)] (u16s tabN) frL frH frT) Tryz.f247.results.toList=some [.val (.agg (List.toArray (u16s tabN)))]:=by kernel_rfl
theorem tOk0:A0g (mkSt 24 [] [] [(0,4096,0)] [(4096,284,256)] (tZ 256) fr2 frH frT)=true:=by kernel_rfl
theorem tOk1:A0g (mkSt 24 [] [] [(0,4096,0),(1,fr2,0)] [(4096,284,256),(fr2,284,256)] (tZ 256++tZ 256) frL frH frT)=true:=by kernel_rfl
theorem tOk2:A0g (tS 0)=true:=by kernel_rfl
theorem tOk3:A0g (mkSt 24 [] [] [(0,4096,0),(1,fr2,0)] [(4096,284,256),(fr2,284,256)] (tZ 256++u16s tabN) frL frH frT)=true:=by kernel_rfl
theorem tOk4:A0g (mkSt 24 [] [] [(0,4096,0)] [(4096,284,256)] (u16s tabN) frL frH frT)=true:=by kernel_rfl
theorem B3z:Tryz.prog.funcs[247]?=some Tryz.f247:=by kernel_rfl
theorem B0u{k:Nat}(h:(nums k 8).map (fun i=>(C0q i,A0g (tS (i+1))))=(nums k 8).map fun i=>(some (.normal,tS (i+1)),true)){i:Nat}(h1:k≤i)(h2:i<k+8):C0q i=some (.normal,tS (i+1))∧A0g (tS (i+1))=true:=by
 have hh:=congrArg (fun l=>l[i-k]?) h
 simp only[List.getElem?_map]at hh
 have e:(nums k 8)[i-k]?=some i:=by
  have :=List.getElem?_eq_getElem (l:=nums k 8) (i:=i-k) (by simp[nums];omega)
  obtain ⟨h3,_⟩:=V0c 8 k (i-k) _ this
  rw[this,h3]
  congr 1
  omega
 rw[e]at hh
 simp only[Option.map_some,Option.some.injEq,Prod.mk.injEq]at hh
 exact hh
theorem Q5k{i:Nat}(hi:i<256):C0q i=some (.normal,tS (i+1))∧A0g (tS (i+1))=true:=by
 rcases Nat.lt_or_ge i 8 with h | h0
 ·exact B0u tr_0 (by omega) (by omega)
 rcases Nat.lt_or_ge i 16 with h | h1
 ·exact B0u tr_1 (by omega) (by omega)
 rcases Nat.lt_or_ge i 24 with h | h2
 ·exact B0u tr_2 (by omega) (by omega)
 rcases Nat.lt_or_ge i 32 with h | h3
 ·exact B0u tr_3 (by omega) (by omega)
 rcases Nat.lt_or_ge i 40 with h | h4
 ·exact B0u tr_4 (by omega) (by omega)
 rcases Nat.lt_or_ge i 48 with h | h5
 ·exact B0u tr_5 (by omega) (by omega)
 rcases Nat.lt_or_ge i 56 with h | h6
 ·exact B0u tr_6 (by omega) (by omega)
 rcases Nat.lt_or_ge i 64 with h | h7
 ·exact B0u tr_7 (by omega) (by omega)
 rcases Nat.lt_or_ge i 72 with h | h8
 ·exact B0u tr_8 (by omega) (by omega)
 rcases Nat.lt_or_ge i 80 with h | h9
 ·exact B0u tr_9 (by omega) (by omega)
 rcases Nat.lt_or_ge i 88 with h | h10
 ·exact B0u P5j (by omega) (by omega)
 rcases Nat.lt_or_ge i 96 with h | h11
 ·exact B0u P5k (by omega) (by omega)
 rcases Nat.lt_or_ge i 104 with h | h12
 ·exact B0u P5m (by omega) (by omega)
 rcases Nat.lt_or_ge i 112 with h | h13
 ·exact B0u P5n (by omega) (by omega)
 rcases Nat.lt_or_ge i 120 with h | h14
 ·exact B0u P5p (by omega) (by omega)
 rcases Nat.lt_or_ge i 128 with h | h15
 ·exact B0u P5q (by omega) (by omega)
 rcases Nat.lt_or_ge i 136 with h | h16
 ·exact B0u P5r (by omega) (by omega)
 rcases Nat.lt_or_ge i 144 with h | h17
 ·exact B0u P5t (by omega) (by omega)
 rcases Nat.lt_or_ge i 152 with h | h18
 ·exact B0u P5u (by omega) (by omega)
 rcases Nat.lt_or_ge i 160 with h | h19
 ·exact B0u P5v (by omega) (by omega)
 rcases Nat.lt_or_ge i 168 with h | h20
 ·exact B0u P5w (by omega) (by omega)
 rcases Nat.lt_or_ge i 176 with h | h21
 ·exact B0u P5x (by omega) (by omega)
 rcases Nat.lt_or_ge i 184 with h | h22
 ·exact B0u P5y (by omega) (by omega)
 rcases Nat.lt_or_ge i 192 with h | h23
 ·exact B0u P5z (by omega) (by omega)
 rcases Nat.lt_or_ge i 200 with h | h24
 ·exact B0u Q5a (by omega) (by omega)
 rcases Nat.lt_or_ge i 208 with h | h25
 ·exact B0u Q5b (by omega) (by omega)
 rcases Nat.lt_or_ge i 216 with h | h26
 ·exact B0u Q5c (by omega) (by omega)
 rcases Nat.lt_or_ge i 224 with h | h27
 ·exact B0u Q5d (by omega) (by omega)
 rcases Nat.lt_or_ge i 232 with h | h28
 ·exact B0u Q5e (by omega) (by omega)
 rcases Nat.lt_or_ge i 240 with h | h29
 ·exact B0u Q5g (by omega) (by omega)
 rcases Nat.lt_or_ge i 248 with h | h30
 ·exact B0u Q5h (by omega) (by omega)
 exact B0u Q5j (by omega) (by omega)
theorem B0n:∀β,D0t Tryz.prog (B0v Tryz.prog {gam:=([]:Gam)} 1 β):=B0b (E:={gam:=[]}) GamOk.nil 1
theorem W1k(w:World):Calls Tryz.prog 247 #[] w fun e w'=>∃v,e=.returned v∧RowKit.Below w.heap.size w w'∧v=.agg (List.toArray (u16s tabN)):=by
 refine calls_of_wp B3z N5d ?_
 have hst:=A0t.start (N:=24) [] w 4096 frH frT (by simp)
 refine wp_seq ((A0e B0n _ _ tb0).stand tOk0 hst fun a1 w1 h1=>?_)
 refine wp_seq ((A0e B0n _ _ tb1).stand tOk1 h1 fun a2 w2 h2=>?_)
 refine wp_seq (wp_seq ((A0e B0n _ _ tb2).stand tOk2 h2 fun a3 w3 h3=>?_))
 have go:∀(k i:Nat) (Q:Exit→Act→World→Prop) (a':Act) (w':World),i+k=256→(∀a'' w'',A0t (fun k=>k<w.heap.size) w 24 (mkSt 24 [] [] [(0,4096,0),(1,fr2,0)] [(4096,284,256),(fr2,284,256)] (tZ 256++u16s tabN) frL frH frT) a'' w''→Q (.exit 0) a'' w'') →
   A0t (fun k=>k<w.heap.size) w 24 (tS i) a' w'→Code.rounds Tryz.prog tB Q (k+1) a' w':=by
  intro k
  induction k with
  | zero =>
   intro i Q a' w' hi hQ hS
   have:i=256:=by omega
   subst this
   rw[rounds_succ]
   exact (A0e B0n _ _ Q4x).stand tOk3 hS fun a5 w5 h5=>hQ a5 w5 h5
  | succ k ih =>
   intro i Q a' w' hi hQ hS
   obtain ⟨t1,t2⟩:=Q5k (i:=i) (by omega)
   rw[rounds_succ]
   exact (A0e B0n _ _ t1).stand t2 hS fun a5 w5 h5=>ih (i+1) Q a5 w5 (by omega) hQ h5
 refine wp_block (wp_loop_rounds 257 (go 256 0 _ a3 w3 rfl (fun a4 w4 h4=>?_) h3))
 refine (A0e B0n _ _ tbE).stand tOk4 h4 fun a5 w5 h5=>?_
 obtain ⟨h6,h7,h8⟩:=h5.results (P:=Tryz.prog) (fn:=Tryz.f247) tRes
 exact bodyPost_ret h6 h7 ⟨_,rfl,h8.below,rfl⟩
end Go.Ab
