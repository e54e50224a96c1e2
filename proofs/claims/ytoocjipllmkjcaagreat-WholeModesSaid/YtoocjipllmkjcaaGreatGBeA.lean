/- A part of the proofs: lemmas, no statement of their own; no condition. -/
import Derived.Test.YtoocjipllmkjcaaGreatGMaA
import Derived.Test.YtoocjipllmkjcaaGreatFtB
namespace Go.Ab
theorem below2{p:Nat→Prop}(h0:p 0)(h1:p 1):∀i,i<2→p i
 | 0,_=>h0
 | 1,_=>h1
 | n+2,h=>absurd h (by omega)
theorem below6{p:Nat→Prop}(h0:p 0)(h1:p 1)(h2:p 2)(h3:p 3)(h4:p 4)(h5:p 5):∀i,i<6→p i
 | 0,_=>h0
 | 1,_=>h1
 | 2,_=>h2
 | 3,_=>h3
 | 4,_=>h4
 | 5,_=>h5
 | n+6,h=>absurd h (by omega)
theorem below13{p:Nat→Prop}(h0:p 0)(h1:p 1)(h2:p 2)(h3:p 3)(h4:p 4)(h5:p 5)(h6:p 6)(h7:p 7)(h8:p 8)(h9:p 9)(h10:p 10)(h11:p 11)(h12:p 12):∀i,i<13→p i
 | 0,_=>h0
 | 1,_=>h1
 | 2,_=>h2
 | 3,_=>h3
 | 4,_=>h4
 | 5,_=>h5
 | 6,_=>h6
 | 7,_=>h7
 | 8,_=>h8
 | 9,_=>h9
 | 10,_=>h10
 | 11,_=>h11
 | 12,_=>h12
 | n+13,h=>absurd h (by omega)
end Go.Ab
namespace Go.Ab
open Go Go.Proofs
theorem tmC_is:Tryz.f245.body=some (.seq tm0 (.seq tm1 (.seq tm2 (.seq (.seq tm3 (.block 0 (.loop tmL))) tmE)))):=by kernel_rfl
theorem tmN_is:Tryz.f245.ntmps=181:=by kernel_rfl
theorem f245_is:Tryz.prog.funcs[245]?=some Tryz.f245:=by kernel_rfl
def termsO(o:Ops)(b:Bool)(p:Int×Int×Unit):(Nat→Int)×Bool:=iterF (tmRound o p.1 p.2.1) 0 6 (tmT p.1 p.2.1,b)
section
variable {o:Ops} (hG:GamOk Tryz.prog (gamN o))
include hG
theorem tm_r0(c s:Int)(z:(Nat→Int)×Bool):RunsTo Tryz.prog 181 tmL (tmI c s 1 z.1 z.2) .normal (tmI c s 2 (tmRound o c s 0 z).1 (tmRound o c s 0 z).2):=gCut_runs (E:={gam:=gamN o}) hG (tm_q10 o c s z.1 z.2) rfl (tmI_k2 ..) rfl
theorem tm_r1(c s:Int)(z:(Nat→Int)×Bool):RunsTo Tryz.prog 181 tmL (tmI c s 2 z.1 z.2) .normal (tmI c s 3 (tmRound o c s 1 z).1 (tmRound o c s 1 z).2):=gCut_runs (E:={gam:=gamN o}) hG (tm_q11 o c s z.1 z.2) rfl (tmI_k3 ..) rfl
theorem tm_r2(c s:Int)(z:(Nat→Int)×Bool):RunsTo Tryz.prog 181 tmL (tmI c s 3 z.1 z.2) .normal (tmI c s 4 (tmRound o c s 2 z).1 (tmRound o c s 2 z).2):=gCut_runs (E:={gam:=gamN o}) hG (tm_q12 o c s z.1 z.2) rfl (tmI_k4 ..) rfl
theorem tm_r3(c s:Int)(z:(Nat→Int)×Bool):RunsTo Tryz.prog 181 tmL (tmI c s 4 z.1 z.2) .normal (tmI c s 5 (tmRound o c s 3 z).1 (tmRound o c s 3 z).2):=gCut_runs (E:={gam:=gamN o}) hG (tm_q13 o c s z.1 z.2) rfl (tmI_k5 ..) rfl
theorem tm_r4(c s:Int)(z:(Nat→Int)×Bool):RunsTo Tryz.prog 181 tmL (tmI c s 5 z.1 z.2) .normal (tmI c s 6 (tmRound o c s 4 z).1 (tmRound o c s 4 z).2):=gCut_runs (E:={gam:=gamN o}) hG (tm_q14 o c s z.1 z.2) rfl (tmI_k6 ..) rfl
theorem tm_r5(c s:Int)(z:(Nat→Int)×Bool):RunsTo Tryz.prog 181 tmL (tmI c s 6 z.1 z.2) .normal (tmI c s 7 (tmRound o c s 5 z).1 (tmRound o c s 5 z).2):=gCut_runs (E:={gam:=gamN o}) hG (tm_q15 o c s z.1 z.2) rfl (tmI_k7 ..) rfl
theorem tm_x(c s:Int)(z:(Nat→Int)×Bool):RunsTo Tryz.prog 181 tmL (tmI c s 7 z.1 z.2) (.exit 0) (tmI c s 7 z.1 z.2):=gCut_runs (E:={gam:=gamN o}) hG (tm_qX o c s z.1 z.2) rfl (tmI_k7 ..) rfl
theorem tm_loop(c s:Int)(T:Nat→Int)(f:Bool):RunsTo Tryz.prog 181 (.block 0 (.loop tmL)) (tmI c s 1 T f) .normal (tmI c s 7 (iterF (tmRound o c s) 0 6 (T,f)).1 (iterF (tmRound o c s) 0 6 (T,f)).2) :=
 RunsTo.rounds (P:=Tryz.prog) (N:=181) (c:=tmL) (id:=0) 6 (fun k z=>tmI c s (k+1) z.1 z.2) (fun z=>tmI c s 7 z.1 z.2) (tmRound o c s)
  (fun k z hk=>below6 (p:=fun k=>∀z:(Nat→Int)×Bool,RunsTo Tryz.prog 181 tmL (tmI c s (k+1) z.1 z.2) .normal (tmI c s (k+1+1) (tmRound o c s k z).1 (tmRound o c s k z).2)) (tm_r0 hG c s) (tm_r1 hG c s) (tm_r2 hG c s) (tm_r3 hG c s) (tm_r4 hG c s) (tm_r5 hG c s) k hk z)
  (fun z=>tm_x hG c s z) (T,f)
theorem tm_runs(b:Bool)(c s:Int):RunsTo Tryz.prog 181 (.seq tm0 (.seq tm1 (.seq tm2 (.seq (.seq tm3 (.block 0 (.loop tmL))) tmE)))) (startS 181 [.ptr 0 0,.val (.int .i64 c),.val (.int .i64 s)] (row 57 b)) .ret (tmZ (termsO o b (c,s,())).1 (termsO o b (c,s,())).2) :=
 (gRun_runs (E:={gam:=gamN o}) hG (tm_q0 o c s b)).seq ((tm_region c s b).seq ((gRun_runs (E:={gam:=gamN o}) hG (tm_q2 o c s b)).seq (((gRun_runs (E:={gam:=gamN o}) hG (tm_q3 o c s (tmT c s) b)).seq (tm_loop hG c s (tmT c s) b)).seq (gRun_runs (E:={gam:=gamN o}) hG (tm_qE o c s _ _)))))
end
theorem tm_mlo:(4096:Nat)≤(4096+1*2^180):=Nat.le_of_ble_eq_true (by kernel_rfl)
theorem tm_mhi:((4096+1*2^180):Nat)<4096+2^200 :=
 show ((4096+1*2^180)+1:Nat)≤4096+2^200 from Nat.le_of_ble_eq_true (by kernel_rfl)
theorem tm_hget(T:Nat→Int)(f:Bool):hget (tmZ T f).heap (4096+1*2^180)=some (.obj (tmObj 7 T)):=by kernel_rfl
theorem tm_res(T:Nat→Int)(f:Bool):resA Tryz.prog (tmZ T f) Tryz.f245.results.toList=some [.map (4096+1*2^180)]:=by kernel_rfl
def termsS(g:Bool→Int×Int×Unit→(Nat→Int)×Bool):Summary:=fun args cs=>match args,cs with
 | [.ptr 0 0,.val (.int .i64 c),.val (.int .i64 s)],[.row e [.val (.bool b)]]=>match Nat.beq e 57 with
  | true=>.ret (.map 1) [.row 57 [.val (.bool (g b (c,s,())).2)],.obj (tmObj 7 (g b (c,s,())).1)]
  | false=>.no
 | _,_=>.no
theorem okTerms{o:Ops}(hG:GamOk Tryz.prog (gamN o)):SumOk Tryz.prog 245 (termsS (termsO o)):=by
 intro args cs r cs' hs
 unfold termsS at hs
 split at hs
 ·rename_i c s e b
  split at hs
  ·rename_i he
   have :=Nat.eq_of_beq_eq_true he
   subst this
   simp only[STr.sel,Option.some.injEq,Prod.mk.injEq]at hs
   obtain ⟨rfl,rfl⟩:=hs
   refine sum_new (cs':=row 57 (termsO o b (c,s,())).2) (ds:=[.obj (tmObj 7 (termsO o b (c,s,())).1)]) (Ms:=[(4096+1*2^180)]) f245_is tmC_is tmN_is (by show 3≤181;omega) (by show 2≤4096;omega) rfl rfl (by simp) (fun m hm=>?_) rfl rfl (.inr rfl) (tm_runs hG b c s) (tm_res ..) rfl rfl (fun b' c hb=>?_) (fun i m d hi hd=>?_) rfl rfl rfl
   ·rw[List.mem_singleton]at hm
    subst hm
    exact ⟨tm_mlo,tm_mhi⟩
   ·match b',hb with
    | 0,hb=>cases hb;rfl
    | n+1,hb=>simp[row]at hb
   ·match i,hi,hd with
    | 0,hi,hd=>cases hi;cases hd;exact tm_hget ..
    | n+1,hi,hd=>simp at hi
  ·simp[STr.sel]at hs
 ·simp[STr.sel]at hs
end Go.Ab
