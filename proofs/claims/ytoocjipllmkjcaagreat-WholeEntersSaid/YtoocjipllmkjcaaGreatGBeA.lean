/- A part of the proofs: lemmas, no statement of their own; no condition. -/
import Derived.Test.YtoocjipllmkjcaaGreatGMaA
import Derived.Test.YtoocjipllmkjcaaGreatFtB
namespace Go.Ab
theorem V3z{p:Nat→Prop}(h0:p 0)(h1:p 1):∀i,i<2→p i
 | 0,_=>h0
 | 1,_=>h1
 | n+2,h=>absurd h (by omega)
theorem D0w{p:Nat→Prop}(h0:p 0)(h1:p 1)(h2:p 2)(h3:p 3)(h4:p 4)(h5:p 5):∀i,i<6→p i
 | 0,_=>h0
 | 1,_=>h1
 | 2,_=>h2
 | 3,_=>h3
 | 4,_=>h4
 | 5,_=>h5
 | n+6,h=>absurd h (by omega)
theorem E3d{p:Nat→Prop}(h0:p 0)(h1:p 1)(h2:p 2)(h3:p 3)(h4:p 4)(h5:p 5)(h6:p 6)(h7:p 7)(h8:p 8)(h9:p 9)(h10:p 10)(h11:p 11)(h12:p 12):∀i,i<13→p i
 | 0,_=>h0
 | 1,_=>h1
 | 2,_=>h2
 | 3,_=>h3
 | 4,_=>h4
 | 5,_=>h5
 | 6,_=>h6
 | 7,_=>h7
 | 8,_=>h8
 | 9,_=>h9
 | 10,_=>h10
 | 11,_=>h11
 | 12,_=>h12
 | n+13,h=>absurd h (by omega)
end Go.Ab
namespace Go.Ab
open Go Go.Proofs
theorem P4z:Tryz.f245.body=some (.seq tm0 (.seq tm1 (.seq tm2 (.seq (.seq tm3 (.block 0 (.loop tmL))) tmE)))):=by kernel_rfl
theorem Q4h:Tryz.f245.ntmps=181:=by kernel_rfl
theorem G3q:Tryz.prog.funcs[245]?=some Tryz.f245:=by kernel_rfl
def C1y(o:Ops)(b:Bool)(p:Int×Int×Unit):(Nat→Int)×Bool:=A0k (C0c o p.1 p.2.1) 0 6 (tmT p.1 p.2.1,b)
section
variable {o:Ops} (hG:GamOk Tryz.prog (gamN o))
include hG
theorem P5b(c s:Int)(z:(Nat→Int)×Bool):A0b Tryz.prog 181 tmL (tmI c s 1 z.1 z.2) .normal (tmI c s 2 (C0c o c s 0 z).1 (C0c o c s 0 z).2):=A0c (E:={gam:=gamN o}) hG (Q4n o c s z.1 z.2) rfl (Q4b ..) rfl
theorem P5c(c s:Int)(z:(Nat→Int)×Bool):A0b Tryz.prog 181 tmL (tmI c s 2 z.1 z.2) .normal (tmI c s 3 (C0c o c s 1 z).1 (C0c o c s 1 z).2):=A0c (E:={gam:=gamN o}) hG (Q4p o c s z.1 z.2) rfl (Q4c ..) rfl
theorem P5d(c s:Int)(z:(Nat→Int)×Bool):A0b Tryz.prog 181 tmL (tmI c s 3 z.1 z.2) .normal (tmI c s 4 (C0c o c s 2 z).1 (C0c o c s 2 z).2):=A0c (E:={gam:=gamN o}) hG (Q4q o c s z.1 z.2) rfl (Q4d ..) rfl
theorem P5e(c s:Int)(z:(Nat→Int)×Bool):A0b Tryz.prog 181 tmL (tmI c s 4 z.1 z.2) .normal (tmI c s 5 (C0c o c s 3 z).1 (C0c o c s 3 z).2):=A0c (E:={gam:=gamN o}) hG (Q4r o c s z.1 z.2) rfl (Q4e ..) rfl
theorem P5g(c s:Int)(z:(Nat→Int)×Bool):A0b Tryz.prog 181 tmL (tmI c s 5 z.1 z.2) .normal (tmI c s 6 (C0c o c s 4 z).1 (C0c o c s 4 z).2):=A0c (E:={gam:=gamN o}) hG (Q4t o c s z.1 z.2) rfl (Q4g ..) rfl
theorem P5h(c s:Int)(z:(Nat→Int)×Bool):A0b Tryz.prog 181 tmL (tmI c s 6 z.1 z.2) .normal (tmI c s 7 (C0c o c s 5 z).1 (C0c o c s 5 z).2):=A0c (E:={gam:=gamN o}) hG (Q4u o c s z.1 z.2) rfl (D3h ..) rfl
theorem tm_x(c s:Int)(z:(Nat→Int)×Bool):A0b Tryz.prog 181 tmL (tmI c s 7 z.1 z.2) (.exit 0) (tmI c s 7 z.1 z.2):=A0c (E:={gam:=gamN o}) hG (P5a o c s z.1 z.2) rfl (D3h ..) rfl
theorem R3r(c s:Int)(T:Nat→Int)(f:Bool):A0b Tryz.prog 181 (.block 0 (.loop tmL)) (tmI c s 1 T f) .normal (tmI c s 7 (A0k (C0c o c s) 0 6 (T,f)).1 (A0k (C0c o c s) 0 6 (T,f)).2) :=
 A0b.rounds (P:=Tryz.prog) (N:=181) (c:=tmL) (id:=0) 6 (fun k z=>tmI c s (k+1) z.1 z.2) (fun z=>tmI c s 7 z.1 z.2) (C0c o c s)
  (fun k z hk=>D0w (p:=fun k=>∀z:(Nat→Int)×Bool,A0b Tryz.prog 181 tmL (tmI c s (k+1) z.1 z.2) .normal (tmI c s (k+1+1) (C0c o c s k z).1 (C0c o c s k z).2)) (P5b hG c s) (P5c hG c s) (P5d hG c s) (P5e hG c s) (P5g hG c s) (P5h hG c s) k hk z)
  (fun z=>tm_x hG c s z) (T,f)
theorem R3t(b:Bool)(c s:Int):A0b Tryz.prog 181 (.seq tm0 (.seq tm1 (.seq tm2 (.seq (.seq tm3 (.block 0 (.loop tmL))) tmE)))) (B0t 181 [.ptr 0 0,.val (.int .i64 c),.val (.int .i64 s)] (row 57 b)) .ret (tmZ (C1y o b (c,s,())).1 (C1y o b (c,s,())).2) :=
 (A0a (E:={gam:=gamN o}) hG (N5w o c s b)).seq ((R2y c s b).seq ((A0a (E:={gam:=gamN o}) hG (N5x o c s b)).seq (((A0a (E:={gam:=gamN o}) hG (N5y o c s (tmT c s) b)).seq (R3r hG c s (tmT c s) b)).seq (A0a (E:={gam:=gamN o}) hG (N5z o c s _ _)))))
end
theorem Q4m:(4096:Nat)≤(4096+1*2^180):=Nat.le_of_ble_eq_true (by kernel_rfl)
theorem Q4k:((4096+1*2^180):Nat)<4096+2^200 :=
 show ((4096+1*2^180)+1:Nat)≤4096+2^200 from Nat.le_of_ble_eq_true (by kernel_rfl)
theorem R3q(T:Nat→Int)(f:Bool):hget (tmZ T f).heap (4096+1*2^180)=some (.obj (D1a 7 T)):=by kernel_rfl
theorem Q4v(T:Nat→Int)(f:Bool):resA Tryz.prog (tmZ T f) Tryz.f245.results.toList=some [.map (4096+1*2^180)]:=by kernel_rfl
def Z1d(g:Bool→Int×Int×Unit→(Nat→Int)×Bool):D0c:=fun args cs=>match args,cs with
 | [.ptr 0 0,.val (.int .i64 c),.val (.int .i64 s)],[.row e [.val (.bool b)]]=>match Nat.beq e 57 with
  | true=>.ret (.map 1) [.row 57 [.val (.bool (g b (c,s,())).2)],.obj (D1a 7 (g b (c,s,())).1)]
  | false=>.no
 | _,_=>.no
theorem N3t{o:Ops}(hG:GamOk Tryz.prog (gamN o)):A0h Tryz.prog 245 (Z1d (C1y o)):=by
 intro args cs r cs' hs
 unfold Z1d at hs
 split at hs
 ·rename_i c s e b
  split at hs
  ·rename_i he
   have :=Nat.eq_of_beq_eq_true he
   subst this
   simp only[STr.sel,Option.some.injEq,Prod.mk.injEq]at hs
   obtain ⟨rfl,rfl⟩:=hs
   refine R2r (cs':=row 57 (C1y o b (c,s,())).2) (ds:=[.obj (D1a 7 (C1y o b (c,s,())).1)]) (Ms:=[(4096+1*2^180)]) G3q P4z Q4h (by show 3≤181;omega) (by show 2≤4096;omega) rfl rfl (by simp) (fun m hm=>?_) rfl rfl (.inr rfl) (R3t hG b c s) (Q4v ..) rfl rfl (fun b' c hb=>?_) (fun i m d hi hd=>?_) rfl rfl rfl
   ·rw[List.mem_singleton]at hm
    subst hm
    exact ⟨Q4m,Q4k⟩
   ·match b',hb with
    | 0,hb=>cases hb;rfl
    | n+1,hb=>simp[row]at hb
   ·match i,hi,hd with
    | 0,hi,hd=>cases hi;cases hd;exact R3q ..
    | n+1,hi,hd=>simp at hi
  ·simp[STr.sel]at hs
 ·simp[STr.sel]at hs
end Go.Ab
