/- A part of the proofs: lemmas, no statement of their own; no condition. -/
import Derived.Test.YtoocjipllmkjcaaGreatGMoL
import Derived.Test.YtoocjipllmkjcaaGreatGMaA
namespace Go.Ab
open Go Go.Proofs
def xorI(a b:Int):Int:=IntKind.u64.wrap (((BitVec.ofInt IntKind.u64.bits a ^^^ BitVec.ofInt IntKind.u64.bits b).toNat:Nat):Int)
theorem P2r(mp:U6×U6×Unit→Bool)(mv:U6×U6×Unit→Two U6 U6)(dp:U6×U6×U6×Unit→Bool)(dv:U6×U6×U6×Unit→Two U6 U6)(sz:Int×Unit→Two U6 U6)(gv:Bool→Int×Bool×Unit→Int×Bool)(a b c:Int)(f:Bool) :
  fnSum Tryz.prog {gam:=[(204,S0c mp mv),(205,S0c dp dv),(203,S0 sz),(153,S 57 gv)]} [] 20 154 [.ptr 0 0,.val (.int .i64 a),.val (.int .i64 b),.val (.int .i64 c)] (row 57 f) =
   let x:=(sz (a,())).a.n;let y:=(sz (b,())).a.n;let z:=(sz (c,())).a.n
   let G:=fun (m:Int) (ok:Bool)=>some (AV.val (.int .i64 (gv f (m,ok,())).1),row 57 (gv f (m,ok,())).2)
   let H:=(mv (⟨x⟩,⟨y⟩,())).a.n;let L:=(mv (⟨x⟩,⟨y⟩,())).b.n
   let n:=(dv (⟨H⟩,⟨L⟩,⟨z⟩,())).a.n;let left:=(dv (⟨H⟩,⟨L⟩,⟨z⟩,())).b.n
   let r:=xorI (xorI (sz (a,())).b.n (sz (b,())).b.n) (sz (c,())).b.n
   bif mp (⟨x⟩,⟨y⟩,()) then bif z==0 then G 0 false else bif decide (H≥z) then G 0 false else
    bif dp (⟨H⟩,⟨L⟩,⟨z⟩,()) then bif decide (n>4611686018427387904) then G 0 false else
     bif decide (left≥IntKind.u64.wrap (z-left)) then
      bif r==1 then G (IntKind.i64.wrap (0-IntKind.i64.wrap (IntKind.u64.wrap (n+1)))) true else G (IntKind.i64.wrap (IntKind.u64.wrap (n+1))) true
     else bif r==1 then G (IntKind.i64.wrap (0-IntKind.i64.wrap n)) true else G (IntKind.i64.wrap n) true
    else none
   else none:=by kernel_rfl
theorem Z2w(a:Int):fnSum Tryz.prog {gam:=[]} [] 20 203 [.val (.int .i64 a)] [] =
  bif decide (a<0) then some (.val (.tuple #[.int .u64 (IntKind.u64.wrap (IntKind.i64.wrap (0-a))),.int .u64 1]),[]) else some (.val (.tuple #[.int .u64 (IntKind.u64.wrap a),.int .u64 0]),[]):=by kernel_rfl
theorem V2v(f ok:Bool)(n:Int):fnSum Tryz.prog {gam:=[]} [] 20 153 [.ptr 0 0,.val (.int .i64 n),.val (.bool ok)] (row 57 f) =
  bif !ok then some (.val (.int .i64 0),row 57 true) else bif decide (n>4611686018427387904) then some (.val (.int .i64 0),row 57 true) else bif decide (n < -4611686018427387904) then some (.val (.int .i64 0),row 57 true) else some (.val (.int .i64 n),row 57 f):=by kernel_rfl
def Sc{α ω:Type}[Args α][Cod ω](e:TypeId)(pre:α→Bool)(g:Bool→α→ω×Bool):D0c:=fun args cs=>match args,cs with
 | .ptr 0 0 :: r,[.row e' [.val (.bool b)]]=>match Nat.beq e e',Args.decs (α:=α) r with
  | true,some a=>.test (pre a) (.ret (.val (Cod.enc (g b a).1)) (row e (g b a).2)) .no
  | _,_=>.no
 | _,_=>.no
theorem B3e{α ω:Type}[Args α][Cod ω]{e:TypeId}{pre:α→Bool}{g:Bool→α→ω×Bool}{args:List AV}{cs cs':List Con}{r:AV}(h:(Sc e pre g args cs).sel=some (r,cs')) :
  ∃b a,pre a=true∧args=.ptr 0 0 :: Args.encs a∧cs=row e b∧r=.val (Cod.enc (g b a).1)∧cs'=row e (g b a).2:=by
 unfold Sc at h
 split at h
 ·split at h
  ·rename_i e' b _ _ a h1 h2
   simp only[STr.sel]at h
   cases hp:pre a with
   | false=>rw[hp]at h;cases h
   | true =>
    rw[hp]at h
    simp only[cond_true,Option.some.injEq,Prod.mk.injEq]at h
    obtain ⟨rfl,rfl⟩:=h
    refine ⟨b,a,hp,by rw[Args.law _ _ h2],?_,rfl,rfl⟩
    rw[Nat.eq_of_beq_eq_true h1];rfl
  ·simp[STr.sel]at h
 ·simp[STr.sel]at h
theorem K0h{α ω:Type}[Args α][Cod ω]{P:Program}{E:Env}(hG:GamOk P E.gam){f:FuncId}{e:TypeId}{pre:α→Bool}{g:Bool→α→ω×Bool}(d:Nat)
  (h:∀b a,pre a=true→fnSum P E [] d f (.ptr 0 0 :: Args.encs a) (row e b)=some (.val (Cod.enc (g b a).1),row e (g b a).2)):A0h P f (Sc e pre g):=by
 refine K0a hG fun args cs r cs' hs=>?_
 obtain ⟨b,a,hp,rfl,rfl,rfl,rfl⟩:=B3e hs
 exact ⟨by simp[row],d,h b a hp⟩
def iabs(a:Int):Int:=bif decide (a<0) then 0-a else a
def sgn(a:Int):Int:=bif decide (a<0) then 1 else 0
def szV(p:Int×Unit):Two U6 U6:=⟨⟨bif decide (p.1<0) then IntKind.u64.wrap (IntKind.i64.wrap (0-p.1)) else IntKind.u64.wrap p.1⟩,⟨sgn p.1⟩⟩
def gvV(f:Bool)(p:Int×Bool×Unit):Int×Bool:=bif p.2.1&&num p.1 then (p.1,f) else (0,true)
def rnd(N z:Int):Int:=bif decide (N % z≥z-N % z) then N / z+1 else N / z
def neg3(a b c:Int):Bool:=xor (xor (decide (a<0)) (decide (b<0))) (decide (c<0))
def H0b(f:Bool)(a b c:Int):Int×Bool :=
 bif iabs c==0||decide (iabs a*iabs b / iabs c>4611686018427387904)||decide (rnd (iabs a*iabs b) (iabs c)>4611686018427387904) then (0,true)
 else (bif neg3 a b c then 0-rnd (iabs a*iabs b) (iabs c) else rnd (iabs a*iabs b) (iabs c),f)
def num3(p:Int×Int×Int×Unit):Bool:=num p.1&&(num p.2.1&&num p.2.2.1)
theorem G0g{a:Int}(h:num a=true):0≤iabs a∧iabs a≤4611686018427387904:=by
 rw[G0e]at h
 unfold iabs
 by_cases h1:a<0
 ·simp only[h1,decide_true,cond_true];omega
 ·simp only[h1,decide_false,cond_false];omega
theorem U0b{a:Int}(h:num a=true):(szV (a,())).a.n=iabs a∧(szV (a,())).b.n=sgn a:=by
 rw[G0e]at h
 refine ⟨?_,rfl⟩
 have e1:a<0→IntKind.u64.wrap (IntKind.i64.wrap (0-a))=0-a:=fun h1=>by
  rw[A0q (z:=0-a) (by omega) (by omega),A0r (z:=0-a) (by omega) (by omega)]
 have e2:¬ a<0→IntKind.u64.wrap a=a:=fun h1=>A0r (by omega) (by omega)
 unfold szV iabs
 dsimp only
 by_cases h1:a<0
 ·rw[e1 h1];simp only[h1,decide_true,cond_true]
 ·rw[e2 h1];simp only[h1,decide_false,cond_false]
theorem K4p:A0h Tryz.prog 203 (S0 szV):=by
 refine H0n (E:={gam:=[]}) GamOk.nil 20 fun a=>?_
 obtain ⟨a,_⟩:=a
 refine (Z2w a).trans ?_
 unfold szV sgn
 dsimp only
 cases decide (a<0)<;>rfl
theorem M3y:A0h Tryz.prog 153 (S 57 gvV):=by
 refine S_ok (E:={gam:=[]}) GamOk.nil 20 fun f a=>?_
 obtain ⟨n,ok,_⟩:=a
 refine (V2v f ok n).trans ?_
 unfold gvV num
 cases ok
 ·rfl
 ·by_cases h1:n>4611686018427387904
  ·have e:decide (n≤4611686018427387904)=false:=by simp;omega
   simp only[h1,e,decide_true,Bool.not_true,cond_false,cond_true,Bool.false_and,Bool.and_false];rfl
  ·have e:decide (n≤4611686018427387904)=true:=by simp;omega
   by_cases h2:n < -4611686018427387904
   ·have e2:decide (-4611686018427387904≤n)=false:=by simp;omega
    simp only[h1,h2,e,e2,decide_true,decide_false,Bool.not_true,cond_false,cond_true,Bool.and_false];rfl
   ·have e2:decide (-4611686018427387904≤n)=true:=by simp;omega
    simp only[h1,h2,e,e2,decide_false,Bool.not_true,cond_false,cond_true,Bool.and_self];rfl
theorem xor3(a b c:Int):(xorI (xorI (sgn a) (sgn b)) (sgn c)==1)=neg3 a b c:=by
 unfold sgn neg3
 cases decide (a<0)<;>cases decide (b<0)<;>cases decide (c<0)<;>rfl
theorem H2c{f:Bool}{m:Int}:gvV f (m,true,())=bif num m then (m,f) else (0,true):=by simp[gvV]
theorem A4x{f n:Bool}{q:Int}(h0:0≤q):gvV f (bif n then 0-q else q,true,())=bif decide (q>4611686018427387904) then (0,true) else (bif n then 0-q else q,f):=by
 rw[H2c]
 have:num (bif n then 0-q else q)=!decide (q>4611686018427387904):=by
  rw[Bool.eq_iff_iff,G0e,Bool.not_eq_true',decide_eq_false_iff_not]
  cases n<;>simp only[cond_true,cond_false]<;>omega
 rw[this]
 cases decide (q>4611686018427387904)<;>rfl
theorem J5g:A0h Tryz.prog 154 (Sc 57 num3 fun f (p:Int×Int×Int×Unit)=>H0b f p.1 p.2.1 p.2.2.1):=by
 have hG:GamOk Tryz.prog [(204,S0c B0h J0g),(205,S0c Z0x E1n),(203,S0 szV),(153,S 57 gvV)]:=.cons X2m (.cons J5k (.cons K4p (.cons M3y .nil)))
 refine K0h (E:={gam:=[(204,S0c B0h J0g),(205,S0c Z0x E1n),(203,S0 szV),(153,S 57 gvV)]}) hG 20 fun f p hp=>?_
 obtain ⟨a,b,c,_⟩:=p
 simp only[num3,Bool.and_eq_true]at hp
 obtain ⟨ha,hb,hc⟩:=hp
 refine (P2r B0h J0g Z0x E1n szV gvV a b c f).trans ?_
 obtain ⟨a1,a2⟩:=U0b ha
 obtain ⟨b1,b2⟩:=U0b hb
 obtain ⟨c1,c2⟩:=U0b hc
 obtain ⟨a3,a4⟩:=G0g ha
 obtain ⟨b3,b4⟩:=G0g hb
 obtain ⟨c3,c4⟩:=G0g hc
 dsimp only
 rw[a1,a2,b1,b2,c1,c2,xor3]
 have n0:0≤iabs a*iabs b:=Int.mul_nonneg a3 b3
 have n1:iabs a*iabs b≤4611686018427387904*4611686018427387904:=Int.le_trans (Int.mul_le_mul_of_nonneg_right a4 b3) (Int.mul_le_mul_of_nonneg_left b4 (by omega))
 have hm:B0h (⟨iabs a⟩,⟨iabs b⟩,())=true:=by simp only[B0h,word,Bool.and_eq_true,decide_eq_true_eq];omega
 rw[hm,cond_true]
 unfold H0b
 generalize hx:iabs a*iabs b=N at *
 generalize iabs c=z at *
 simp only[J0g,hx]
 have hbad:∀m:Int,gvV f (m,false,())=(0,true):=fun m=>rfl
 by_cases hz:z=0
 ·subst hz
  simp only[BEq.rfl,cond_true,Bool.true_or,hbad]
  rfl
 have hz':(z==0)=false:=by simp;exact hz
 have hzp:0<z:=by omega
 rw[hz']
 simp only[cond_false,Bool.false_or]
 by_cases hh:N / 18446744073709551616≥z
 ·have:decide (N / z>4611686018427387904)=true:=by
   simp only[decide_eq_true_eq]
   have:4611686018427387905≤N / z:=(Int.le_ediv_iff_mul_le hzp).2 (by omega)
   omega
  simp only[hh,this,decide_true,cond_true,Bool.true_or,hbad]
  rfl
 have hd:Z0x (⟨N / 18446744073709551616⟩,⟨N % 18446744073709551616⟩,⟨z⟩,())=true:=by
  simp only[Z0x,decide_eq_true_eq];omega
 have hv:E1n (⟨N / 18446744073709551616⟩,⟨N % 18446744073709551616⟩,⟨z⟩,())=⟨⟨N / z⟩,⟨N % z⟩⟩:=by
  unfold E1n
  simp only[show N / 18446744073709551616*18446744073709551616+N % 18446744073709551616=N by omega]
 simp only[hh,hd,hv,decide_false,cond_false,cond_true]
 have q0:0≤N / z:=Int.ediv_nonneg n0 (by omega)
 have r0:=Int.emod_nonneg N (b:=z) (by omega)
 have r1:=Int.emod_lt_of_pos N hzp
 by_cases hq:N / z>4611686018427387904
 ·simp only[hq,decide_true,cond_true,Bool.true_or,hbad]
  rfl
 simp only[hq,decide_false,cond_false,Bool.false_or]
 rw[A0r (z:=z-N % z) (by omega) (by omega),A0r (z:=N / z+1) (by omega) (by omega),A0q (z:=N / z+1) (by omega) (by omega),A0q (z:=N / z) (by omega) (by omega),
  A0q (z:=0-(N / z+1)) (by omega) (by omega),A0q (z:=0-N / z) (by omega) (by omega)]
 have fin:∀q:Int,0≤q→(bif neg3 a b c then some (AV.val (.int .i64 (gvV f (0-q,true,())).1),row 57 (gvV f (0-q,true,())).2) else some (AV.val (.int .i64 (gvV f (q,true,())).1),row 57 (gvV f (q,true,())).2)) =
   some (AV.val (Cod.enc (bif decide (q>4611686018427387904) then ((0:Int),true) else (bif neg3 a b c then 0-q else q,f)).1),row 57 (bif decide (q>4611686018427387904) then ((0:Int),true) else (bif neg3 a b c then 0-q else q,f)).2):=by
  intro q h0
  rw[← A4x h0]
  cases neg3 a b c<;>rfl
 rw[fin _ (by omega),fin _ (by omega)]
 unfold rnd
 cases decide (N % z≥z-N % z)<;>rfl
variable {β:Type}
def ptk:List Int→Bool→(Bool→Option β)→Option β
 | [],f,K=>K f
 | x :: r,f,K=>bif f then ptk r true K else bif decide (x>4611686018427387904) then ptk r true K else ptk r (decide (x < -4611686018427387904)) K
def rtk:List Int→Bool→(Bool→Option β)→Option β
 | [],f,K=>K f
 | x :: r,f,K=>bif decide (x≥-4611686018427387904) then (bif !decide (x≤4611686018427387904) then rtk r true K else rtk r f K) else rtk r true K
def C0r:List Int→Bool
 | []=>true
 | x :: r=>num x&&C0r r
theorem B1z:∀(l:List Int) (f:Bool) (K:Bool→Option β),ptk l f K=K (f||!C0r l)
 | [],f,K=>by simp[ptk,C0r]
 | x :: r,f,K=>by
  simp only[ptk,B1z r,C0r]
  cases f with
  | true=>simp
  | false =>
   by_cases h1:x>4611686018427387904
   ·have:num x=false:=by simp[num];omega
    simp[h1,this]
   ·by_cases h2:x < -4611686018427387904
    ·have:num x=false:=by simp[num];omega
     simp[h1,h2,this]
    ·have:num x=true:=by rw[G0e];omega
     simp[h1,h2,this]
theorem C1h:∀(l:List Int) (f:Bool) (K:Bool→Option β),rtk l f K=K (f||!C0r l)
 | [],f,K=>by simp[rtk,C0r]
 | x :: r,f,K=>by
  simp only[rtk,C1h r,C0r]
  by_cases h1:x>4611686018427387904
  ·have:num x=false:=by simp[num];omega
   have e:decide (x≤4611686018427387904)=false:=by simp;omega
   rw[this,e]
   simp
  ·by_cases h2:x < -4611686018427387904
   ·have:num x=false:=by simp[num];omega
    have e:decide (x≥-4611686018427387904)=false:=by simp;omega
    rw[this,e]
    simp
   ·have:num x=true:=by rw[G0e];omega
    have e:decide (x≤4611686018427387904)=true:=by simp;omega
    have e2:decide (x≥-4611686018427387904)=true:=by simp;omega
    rw[this,e,e2]
    simp
def C1z(e:TypeId)(pre:Int×Int×Int×Unit→Bool)(g:Bool→Int×Int×Int×Unit→Int×Bool)(a b c:Int)(f:Bool):Option (AV×List Con) :=
 bif !!f then some (.val (.int .i64 0),row e f) else bif pre (a,b,c,()) then some (.val (.int .i64 (g f (a,b,c,())).1),row e (g f (a,b,c,())).2) else none
theorem D4p(pre:Int×Int×Int×Unit→Bool)(g:Bool→Int×Int×Int×Unit→Int×Bool)(x y:Int)(f:Bool) :
  fnSum Tryz.prog {gam:=[(154,Sc 57 pre g)]} [] 20 64 [.ptr 0 0,.val (.int .i64 x),.val (.int .i64 y)] (row 57 f)=ptk [x,y] f (C1z 57 pre g x y 1099511627776):=by kernel_rfl
theorem X3w(pre:Int×Int×Int×Unit→Bool)(g:Bool→Int×Int×Int×Unit→Int×Bool)(x y:Int)(f:Bool) :
  fnSum Tryz.prog {gam:=[(154,Sc 57 pre g)]} [] 20 140 [.ptr 0 0,.val (.int .i64 x),.val (.int .i64 y)] (row 57 f)=ptk [x,y] f (C1z 57 pre g x 1099511627776 y):=by kernel_rfl
theorem P3h(pre:Int×Int×Int×Unit→Bool)(g:Bool→Int×Int×Int×Unit→Int×Bool)(x y z:Int)(f:Bool) :
  fnSum Tryz.prog {gam:=[(154,Sc 57 pre g)]} [] 20 65 [.ptr 0 0,.val (.int .i64 x),.val (.int .i64 y),.val (.int .i64 z)] (row 57 f)=ptk [x,y,z] f (C1z 57 pre g x y z):=by kernel_rfl
theorem D4q(pre:Int×Int×Int×Unit→Bool)(g:Bool→Int×Int×Int×Unit→Int×Bool)(x y:Int)(f:Bool) :
  fnSum Tryz.prog {gam:=[(161,Sc 59 pre g)]} [] 20 80 [.ptr 0 0,.val (.int .i64 x),.val (.int .i64 y)] (row 59 f)=rtk [x,y] f (C1z 59 pre g x y 1099511627776):=by kernel_rfl
theorem X3x(pre:Int×Int×Int×Unit→Bool)(g:Bool→Int×Int×Int×Unit→Int×Bool)(x y:Int)(f:Bool) :
  fnSum Tryz.prog {gam:=[(161,Sc 59 pre g)]} [] 20 114 [.ptr 0 0,.val (.int .i64 x),.val (.int .i64 y)] (row 59 f)=rtk [x,y] f (C1z 59 pre g x 1099511627776 y):=by kernel_rfl
theorem P3j(pre:Int×Int×Int×Unit→Bool)(g:Bool→Int×Int×Int×Unit→Int×Bool)(x y z:Int)(f:Bool) :
  fnSum Tryz.prog {gam:=[(161,Sc 59 pre g)]} [] 20 82 [.ptr 0 0,.val (.int .i64 x),.val (.int .i64 y),.val (.int .i64 z)] (row 59 f)=rtk [x,y,z] f (C1z 59 pre g x y z):=by kernel_rfl
def G0m(f:Bool)(a b c:Int):Int×Bool:=bif f||!C0r [a,b,c]then (0,true) else H0b false a b c
def fmul(f:Bool)(a b:Int):Int×Bool:=bif f||!C0r [a,b]then (0,true) else H0b false a b 1099511627776
def fdiv(f:Bool)(a b:Int):Int×Bool:=bif f||!C0r [a,b]then (0,true) else H0b false a 1099511627776 b
def ratV(f:Bool)(p:Int×Int×Int×Unit):Int×Bool:=H0b f p.1 p.2.1 p.2.2.1
theorem L1y{e:TypeId}{a b c:Int}{bad:Bool}(h:bad=false→num3 (a,b,c,())=true) :
  C1z e num3 ratV a b c bad=some (.val (.int .i64 (bif bad then ((0:Int),true) else H0b false a b c).1),row e (bif bad then ((0:Int),true) else H0b false a b c).2):=by
 unfold C1z
 cases bad with
 | true=>rfl
 | false=>rw[h rfl];rfl
theorem P1m(e:TypeId)(x y:Int)(f:Bool):C1z e num3 ratV x y 1099511627776 (f||!C0r [x,y])=some (.val (.int .i64 (fmul f x y).1),row e (fmul f x y).2) :=
 L1y fun h=>by
  simp only[Bool.or_eq_false_iff,Bool.not_eq_false',C0r,Bool.and_true,Bool.and_eq_true]at h
  simp only[num3,Bool.and_eq_true]
  exact ⟨h.2.1,h.2.2,by decide⟩
theorem N1a(e:TypeId)(x y:Int)(f:Bool):C1z e num3 ratV x 1099511627776 y (f||!C0r [x,y])=some (.val (.int .i64 (fdiv f x y).1),row e (fdiv f x y).2) :=
 L1y fun h=>by
  simp only[Bool.or_eq_false_iff,Bool.not_eq_false',C0r,Bool.and_true,Bool.and_eq_true]at h
  simp only[num3,Bool.and_eq_true]
  exact ⟨h.2.1,by decide,h.2.2⟩
theorem G1y(e:TypeId)(x y z:Int)(f:Bool):C1z e num3 ratV x y z (f||!C0r [x,y,z])=some (.val (.int .i64 (G0m f x y z).1),row e (G0m f x y z).2) :=
 L1y fun h=>by
  simp only[Bool.or_eq_false_iff,Bool.not_eq_false',C0r,Bool.and_true,Bool.and_eq_true]at h
  simp only[num3,Bool.and_eq_true]
  exact ⟨h.2.1,h.2.2.1,h.2.2.2⟩
theorem G2u:GamOk Tryz.prog [(154,Sc 57 num3 ratV)]:=.cons J5g .nil
theorem N2a:A0h Tryz.prog 64 (S 57 (op2 fmul)):=S_ok (E:={gam:=[(154,Sc 57 num3 ratV)]}) G2u 20 fun f p=>by
 obtain ⟨x,y,_⟩:=p
 exact ((D4p num3 ratV x y f).trans (B1z _ _ _)).trans (P1m 57 x y f)
theorem H5z:A0h Tryz.prog 140 (S 57 (op2 fdiv)):=S_ok (E:={gam:=[(154,Sc 57 num3 ratV)]}) G2u 20 fun f p=>by
 obtain ⟨x,y,_⟩:=p
 exact ((X3w num3 ratV x y f).trans (B1z _ _ _)).trans (N1a 57 x y f)
theorem M2z:A0h Tryz.prog 65 (S 57 (op3 G0m)):=S_ok (E:={gam:=[(154,Sc 57 num3 ratV)]}) G2u 20 fun f p=>by
 obtain ⟨x,y,z,_⟩:=p
 exact ((P3h num3 ratV x y z f).trans (B1z _ _ _)).trans (G1y 57 x y z f)
end Go.Ab
namespace Go.Ab
open Go Go.Proofs
theorem D3w(a b:Wd):fnSum Tryz.prog {gam:=[]} [] 20 124 [.val (Cod.enc a),.val (Cod.enc b)] [] =
  bif decide (IntKind.u64.wrap (a.l+b.l)<a.l) then some (.val (Cod.enc (Wd.mk (IntKind.u64.wrap (IntKind.u64.wrap (a.h+b.h)+1)) (IntKind.u64.wrap (a.l+b.l)))),[])
  else some (.val (Cod.enc (Wd.mk (IntKind.u64.wrap (a.h+b.h)) (IntKind.u64.wrap (a.l+b.l)))),[]):=by kernel_rfl
def adV(p:Wd×Wd×Unit):Wd :=
 bif decide (IntKind.u64.wrap (p.1.l+p.2.1.l)<p.1.l) then ⟨IntKind.u64.wrap (IntKind.u64.wrap (p.1.h+p.2.1.h)+1),IntKind.u64.wrap (p.1.l+p.2.1.l)⟩ else ⟨IntKind.u64.wrap (p.1.h+p.2.1.h),IntKind.u64.wrap (p.1.l+p.2.1.l)⟩
theorem N3a:A0h Tryz.prog 124 (S0 adV):=by
 refine H0n (E:={gam:=[]}) GamOk.nil 20 fun p=>?_
 obtain ⟨a,b,_⟩:=p
 refine (D3w a b).trans ?_
 unfold adV
 dsimp only
 cases decide (IntKind.u64.wrap (a.l+b.l)<a.l)<;>rfl
def Wd.ok(a:Wd):Bool:=word a.h&&word a.l
def Wd.val(a:Wd):Int:=a.h*18446744073709551616+a.l
theorem R1t{a b:Wd}(ha:a.ok=true)(hb:b.ok=true):(adV (a,b,())).ok=true∧(adV (a,b,())).val=(a.val+b.val) % 340282366920938463463374607431768211456:=by
 simp only[Wd.ok,word,Bool.and_eq_true,decide_eq_true_eq]at ha hb
 unfold adV
 dsimp only
 simp only[R0b]
 by_cases h:(a.l+b.l) % 18446744073709551616<a.l
 ·simp only[h,decide_true,cond_true,Wd.ok,Wd.val,word,Bool.and_eq_true,decide_eq_true_eq]
  omega
 ·simp only[h,decide_false,cond_false,Wd.ok,Wd.val,word,Bool.and_eq_true,decide_eq_true_eq]
  omega
def D1b:R0z:=[(4096,185,[.u64,.u64]),(1532495540865888858358347027150309183618739122183606272,185,[.u64,.u64]),(3064991081731777716716694054300618367237478244367208448,185,[.u64,.u64])]
def tmFx:List (Nat×Nat×Nat):=[(4,4096,0),(5,1532495540865888858358347027150309183618739122183606272,0),(6,3064991081731777716716694054300618367237478244367208448,0)]
def tmSl:J0m:=[(1,.int .u64)]
def M0d(b:Nat)(t:Wd):Wd:=if h:b=0 then t else M0d (b / 2) (adV (t,t,()))
termination_by b
def tpre:List Int→Bool
 | [b,_,_,s1,s2,t1,t2]=>word b&&((Wd.mk s1 s2).ok&&((Wd.mk t1 t2).ok&&decide ((Wd.mk s1 s2).val+(Wd.mk t1 t2).val*b<340282366920938463463374607431768211456)))
 | _=>false
def Z1g(A B C D:Int→Int→Int→Int→Int→Int):List Int→List Int
 | [b,z1,z2,s1,s2,t1,t2]=>[0,z1,z2,A b s1 s2 t1 t2,B b s1 s2 t1 t2,C b s1 s2 t1 t2,D b s1 s2 t1 t2]
 | l=>l
def W1p:List Int→List Int:=Z1g (fun b s1 s2 t1 t2=>((Wd.mk s1 s2).val+(Wd.mk t1 t2).val*b) / 18446744073709551616) (fun b s1 s2 t1 t2=>((Wd.mk s1 s2).val+(Wd.mk t1 t2).val*b) % 18446744073709551616)
 (fun b _ _ t1 t2=>(M0d b.toNat ⟨t1,t2⟩).h) (fun b _ _ t1 t2=>(M0d b.toNat ⟨t1,t2⟩).l)
theorem B2z(ad:Wd×Wd×Unit→Wd)(b z1 z2 s1 s2 t1 t2:Int)(x:Nat→AV)(lo hi step:Nat) :
  run Tryz.prog (B0v Tryz.prog {gam:=[(124,S0 ad)]} 1) 24 {quiet:=B0p [(124,S0 ad)]} [] 50 (Ex×St) (J0u (K0k Tryz.f125 0)) (lqSt 24 tmSl tmFx (nums 10 14) D1b [b,z1,z2,s1,s2,t1,t2] x lo hi step) (fun e s'=>some (e,G0c (nums 10 14) s')) =
   bif decide (b>0) then
    bif b.tmod 2==1 then some (.normal,lqSt 24 tmSl tmFx (nums 10 14) D1b [IntKind.u64.wrap (b.tdiv 2),z1,z2,(ad (⟨s1,s2⟩,⟨t1,t2⟩,())).h,(ad (⟨s1,s2⟩,⟨t1,t2⟩,())).l,(ad (⟨t1,t2⟩,⟨t1,t2⟩,())).h,(ad (⟨t1,t2⟩,⟨t1,t2⟩,())).l] x lo hi step)
    else some (.normal,lqSt 24 tmSl tmFx (nums 10 14) D1b [IntKind.u64.wrap (b.tdiv 2),z1,z2,s1,s2,(ad (⟨t1,t2⟩,⟨t1,t2⟩,())).h,(ad (⟨t1,t2⟩,⟨t1,t2⟩,())).l] x lo hi step)
   else some (.exit 0,lqSt 24 tmSl tmFx (nums 10 14) D1b [b,z1,z2,s1,s2,t1,t2] x lo hi step):=by kernel_rfl
theorem R2w(ad:Wd×Wd×Unit→Wd)(p:List Int→Bool)(A B C D:Int→Int→Int→Int→Int→Int)(a b:Int) :
  fnSum Tryz.prog {gam:=[(124,S0 ad)]} [(0,Y0h 24 tmSl tmFx (nums 10 14) D1b p (Z1g A B C D))] 20 125 [.val (.int .u64 a),.val (.int .u64 b)] [] =
   bif p [b,0,0,0,0,0,a]then some (.val (Cod.enc (Wd.mk (A b 0 0 0 a) (B b 0 0 0 a))),[]) else none:=by kernel_rfl
theorem R2v{b z1 z2 s1 s2 t1 t2:Int}(hp:tpre [b,z1,z2,s1,s2,t1,t2]=true) :
  (b>0→∀u:Wd,u=(bif b.tmod 2==1 then adV (⟨s1,s2⟩,⟨t1,t2⟩,()) else ⟨s1,s2⟩) →
   tpre [IntKind.u64.wrap (b.tdiv 2),z1,z2,u.h,u.l,(adV (⟨t1,t2⟩,⟨t1,t2⟩,())).h,(adV (⟨t1,t2⟩,⟨t1,t2⟩,())).l]=true ∧
   W1p [IntKind.u64.wrap (b.tdiv 2),z1,z2,u.h,u.l,(adV (⟨t1,t2⟩,⟨t1,t2⟩,())).h,(adV (⟨t1,t2⟩,⟨t1,t2⟩,())).l]=W1p [b,z1,z2,s1,s2,t1,t2] ∧
   (IntKind.u64.wrap (b.tdiv 2)).toNat<b.toNat) ∧
  (¬ b>0→W1p [b,z1,z2,s1,s2,t1,t2]=[b,z1,z2,s1,s2,t1,t2]):=by
 simp only[tpre,Bool.and_eq_true,decide_eq_true_eq]at hp
 obtain ⟨hb,hs,ht,hlt⟩:=hp
 simp only[word,decide_eq_true_eq]at hb
 obtain ⟨hb0,hb1⟩:=hb
 refine ⟨fun hpos u hu=>?_,fun hz=>?_⟩
 ·have e1:b.tdiv 2=b / 2:=Int.tdiv_eq_ediv_of_nonneg hb0
  have e2:b.tmod 2=b % 2:=Int.tmod_eq_emod_of_nonneg hb0
  have e3:IntKind.u64.wrap (b / 2)=b / 2:=A0r (by omega) (by omega)
  rw[e1,e3]
  rw[e2]at hu
  obtain ⟨k1,k2⟩:=R1t ht ht
  obtain ⟨k3,k4⟩:=R1t hs ht
  have ht':=ht
  have hs':=hs
  simp only[Wd.ok,word,Bool.and_eq_true,decide_eq_true_eq]at ht' hs'
  have hT0:0≤(Wd.mk t1 t2).val:=by simp only[Wd.val];omega
  have hS0:0≤(Wd.mk s1 s2).val:=by simp only[Wd.val];omega
  have hT1:(Wd.mk t1 t2).val<340282366920938463463374607431768211456:=by simp only[Wd.val];omega
  have hterm:M0d b.toNat ⟨t1,t2⟩=M0d (b / 2).toNat (adV (⟨t1,t2⟩,⟨t1,t2⟩,())):=by
   rw[M0d,dif_neg (by omega)]
   congr 1
   omega
  generalize hTT:(Wd.mk t1 t2).val=T at *
  generalize hSS:(Wd.mk s1 s2).val=Sv at *
  generalize hD:adV (⟨t1,t2⟩,⟨t1,t2⟩,())=D at *
  have hTb:T*b=2*(T*(b / 2))+T*(b % 2):=by
   have:b=2*(b / 2)+b % 2:=by omega
   calc T*b=T*(2*(b / 2)+b % 2):=by rw[← this]
    _=2*(T*(b / 2))+T*(b % 2):=by rw[Int.mul_add,Int.mul_left_comm]
  have hTh0:0≤T*(b / 2):=Int.mul_nonneg hT0 (by omega)
  -- the sum
  have hu1:u.ok=true∧u.val=Sv+T*(b % 2):=by
   rcases Int.emod_two_eq b with h | h
   ·rw[h]at hu
    have:u=⟨s1,s2⟩:=hu
    subst this
    exact ⟨hs,by rw[hSS,h];omega⟩
   ·rw[h]at hu
    have:u=adV (⟨s1,s2⟩,⟨t1,t2⟩,()):=hu
    subst this
    refine ⟨k3,?_⟩
    rw[k4,h,Int.mul_one]
    rw[h,Int.mul_one]at hTb
    omega
  obtain ⟨hu1,hu2⟩:=hu1
  -- the term
  have hD2:D.val*(b / 2)=2*(T*(b / 2)):=by
   by_cases hb2:b / 2=0
   ·rw[hb2];omega
   ·have h1:T*1≤T*(b / 2):=Int.mul_le_mul_of_nonneg_left (by omega) hT0
    have h2:0≤T*(b % 2):=Int.mul_nonneg hT0 (by omega)
    have:D.val=2*T:=by rw[k2];omega
    rw[this,Int.mul_assoc]
  have hsum:u.val+D.val*(b / 2)=Sv+T*b:=by rw[hu2,hD2,hTb];omega
  refine ⟨?_,?_,by omega⟩
  ·simp only[tpre,Bool.and_eq_true,decide_eq_true_eq]
   refine ⟨by simp only[word,decide_eq_true_eq];omega,hu1,k1,?_⟩
   show u.val+D.val*(b / 2)<_
   rw[hsum];exact hlt
  ·simp only[W1p,Z1g]
   have h1:(Wd.mk u.h u.l).val+(Wd.mk D.h D.l).val*(b / 2)=Sv+T*b:=hsum
   rw[h1,hTT,hSS,hterm]
 ·have hb:b=0:=by omega
  subst hb
  simp only[W1p,Z1g]
  have h1:M0d (Int.toNat 0) ⟨t1,t2⟩=⟨t1,t2⟩:=by rw[M0d];rfl
  rw[h1]
  simp only[Wd.ok,word,Bool.and_eq_true,decide_eq_true_eq]at hs
  simp only[Int.mul_zero,Int.add_zero,Wd.val]
  rw[show (s1*18446744073709551616+s2) / 18446744073709551616=s1 by omega,show (s1*18446744073709551616+s2) % 18446744073709551616=s2 by omega]
def W1n:M0e:=[(0,Y0h 24 tmSl tmFx (nums 10 14) D1b tpre W1p)]
theorem A3b:C0n (Tryz.f125.body.getD .skip)=[(0,.loop (J0u (K0k Tryz.f125 0))),(1,K0k Tryz.f125 1)]:=by kernel_rfl
theorem N5g:∀fn c,Tryz.prog.funcs[125]?=some fn→fn.body=some c→HFit Tryz.prog fn.ntmps W1n c:=by
 intro fn c hf hb
 rw[Tryz.func125]at hf
 cases hf
 have hn:Tryz.f125.ntmps=24:=by kernel_rfl
 have hc:Tryz.f125.body.getD .skip=c:=by rw[hb];rfl
 rw[hn]
 have hL:=A3b
 rw[hc]at hL
 have hcall:∀β,D0t Tryz.prog (B0v Tryz.prog {gam:=[(124,S0 adV)]} 1 β):=B0b (.cons N3a .nil) 1
 refine HFit.of fun p hp h hh s s' hs=>?_
 rw[hL]at hp
 simp only[List.mem_cons,List.not_mem_nil,or_false]at hp
 rcases hp with rfl | rfl
 ·have:h=Y0h 24 tmSl tmFx (nums 10 14) D1b tpre W1p:=(Option.some.inj hh).symm
  subst this
  refine C4t hcall (F:=50) (wy:={quiet:=B0p [(124,S0 adV)]}) (fun xs=>(xs.getD 0 0).toNat) ?_ s s' hs
  intro xs hlen hpre x lo hi step
  obtain ⟨b,z1,z2,s1,s2,t1,t2,rfl⟩:∃b z1 z2 s1 s2 t1 t2,xs=[b,z1,z2,s1,s2,t1,t2]:=by
   match xs,hlen with
   | [a,b,c,d,e,f,g],_=>exact ⟨a,b,c,d,e,f,g,rfl⟩
  obtain ⟨h1,h2⟩:=R2v hpre
  rw[B2z]
  by_cases hb:b>0
  ·obtain ⟨k1,k2,k3⟩:=h1 hb _ rfl
   simp only[hb,decide_true,cond_true]
   refine .inl ⟨_,?_,k1,?_,k2,?_⟩
   ·rfl
   ·simpa only[List.getD_cons_zero]using k3
   ·cases b.tmod 2==1<;>rfl
  ·simp only[hb,decide_false,cond_false]
   refine .inr ?_
   rw[h2 hb]
 ·simp[W0r,W1n]at hh
def C0a(p:U6×U6×Unit):Wd:=⟨p.1.n*p.2.1.n / 18446744073709551616,p.1.n*p.2.1.n % 18446744073709551616⟩
theorem X2k:A0h Tryz.prog 125 (S0c B0h C0a):=by
 have hG:GamOk Tryz.prog [(124,S0 adV)]:=.cons N3a .nil
 refine H1q (E:={gam:=[(124,S0 adV)]}) hG (hB:=W1n) N5g 20 fun p hp=>?_
 obtain ⟨⟨a⟩,⟨b⟩,_⟩:=p
 refine (R2w adV tpre (fun b s1 s2 t1 t2=>((Wd.mk s1 s2).val+(Wd.mk t1 t2).val*b) / 18446744073709551616) (fun b s1 s2 t1 t2=>((Wd.mk s1 s2).val+(Wd.mk t1 t2).val*b) % 18446744073709551616)
  (fun b _ _ t1 t2=>(M0d b.toNat ⟨t1,t2⟩).h) (fun b _ _ t1 t2=>(M0d b.toNat ⟨t1,t2⟩).l) a b).trans ?_
 simp only[B0h,Bool.and_eq_true]at hp
 obtain ⟨ha,hb⟩:=hp
 have ha':=ha
 have hb':=hb
 simp only[word,decide_eq_true_eq]at ha' hb'
 have hab:a*b≤18446744073709551615*18446744073709551615:=Int.le_trans (Int.mul_le_mul_of_nonneg_right (by omega) hb'.1) (Int.mul_le_mul_of_nonneg_left (by omega) (by omega))
 have hv:(Wd.mk 0 0).val+(Wd.mk 0 a).val*b=a*b:=by simp[Wd.val]
 have hpre:tpre [b,0,0,0,0,0,a]=true:=by
  simp only[tpre,Bool.and_eq_true,decide_eq_true_eq,hv]
  refine ⟨hb,by decide,?_,by omega⟩
  simp only[Wd.ok,ha,Bool.and_true]
  decide
 rw[hpre,cond_true,hv]
 rfl
def ovSl:J0m:=[(1,.int .u64),(7,.int .u64),(8,.int .u64),(9,.int .i64)]
def ovFx:List (Nat×Nat×Nat):=[(2,4096,0)]
def B1v:R0z:=[(4096,185,[.u64,.u64])]
def ovG:List Nat:=10 :: nums 21 30
def G1x(lf al i:Int):Int:=orI (shI lf 1) (andI (srI al i) 1)
def ovSt(b lf q i ah al:Int)(x:Nat→AV)(lo hi step:Nat):St:=lqSt 51 ovSl ovFx ovG B1v [b,lf,q,i,ah,al] x lo hi step
theorem P2b(b lf q i ah al:Int)(x:Nat→AV)(lo hi step:Nat) :
  run Tryz.prog (B0v Tryz.prog {gam:=[]} 1) 51 {} [] 50 (Ex×St) (J0u (K0k Tryz.f240 0)) (ovSt b lf q i ah al x lo hi step) (fun e s'=>some (e,G0c ovG s')) =
   bif decide (i≥0) then bif decide (i<0) then none else
    bif srI lf 63==1 then some (.normal,ovSt b (IntKind.u64.wrap (G1x lf al i-b)) (IntKind.u64.wrap (shI q 1+1)) (IntKind.i64.wrap (i-1)) ah al x lo hi step)
    else bif decide (G1x lf al i≥b) then some (.normal,ovSt b (IntKind.u64.wrap (G1x lf al i-b)) (IntKind.u64.wrap (shI q 1+1)) (IntKind.i64.wrap (i-1)) ah al x lo hi step)
    else some (.normal,ovSt b (G1x lf al i) (shI q 1) (IntKind.i64.wrap (i-1)) ah al x lo hi step)
   else some (.exit 0,ovSt b lf q i ah al x lo hi step):=by kernel_rfl
def K1w(A B:Int→Int→Int→Int→Int→Int):List Int→List Int
 | [b,lf,q,i,ah,al]=>[b,A b lf q i al,B b lf q i al,-1,ah,al]
 | l=>l
theorem Y2g(p:List Int→Bool)(A B:Int→Int→Int→Int→Int→Int)(a:Wd)(b:Int) :
  fnSum Tryz.prog {gam:=[]} [(0,Y0h 51 ovSl ovFx ovG B1v p (K1w A B))] 20 240 [.val (Cod.enc a),.val (.int .u64 b)] [] =
   bif b==0 then some (.val (.tuple #[.int .u64 0,.int .u64 0,.bool false]),[]) else bif decide (a.h≥b) then some (.val (.tuple #[.int .u64 0,.int .u64 0,.bool false]),[]) else
    bif p [b,a.h,0,63,a.h,a.l]then some (.val (.tuple #[.int .u64 (B b a.h 0 63 a.l),.int .u64 (A b a.h 0 63 a.l),.bool true]),[]) else none:=by kernel_rfl
theorem U2e(a:Int)(h0:0≤a)(h1:a<18446744073709551616):andI a 1=a % 2:=by
 unfold andI
 have e:(BitVec.ofInt IntKind.u64.bits a &&& BitVec.ofInt IntKind.u64.bits 1).toNat=a.toNat % 2:=by
  rw[BitVec.toNat_and,BitVec.toNat_ofInt,BitVec.toNat_ofInt]
  have e1:(a % ((2^IntKind.u64.bits:Nat):Int)).toNat=a.toNat:=by
   rw[show ((2^IntKind.u64.bits:Nat):Int)=18446744073709551616 by decide,Int.emod_eq_of_lt h0 h1]
  have e2:((1:Int) % ((2^IntKind.u64.bits:Nat):Int)).toNat=2^1-1:=by decide
  rw[e1,e2,Nat.and_two_pow_sub_one_eq_mod]
 rw[e,A0r (by omega) (by omega)]
 omega
theorem P2a{lf al:Int}{n:Nat}(hn:n<64)(a0:0≤al)(a1:al<18446744073709551616):G1x lf al n=lf*2 % 18446744073709551616+al / 2^n % 2:=by
 have hz:(0:Int)<2^n:=Int.pow_pos (by omega)
 have b0:0≤al / 2^n:=Int.ediv_nonneg a0 (by omega)
 have b1:al / 2^n≤al:=Int.ediv_le_self _ a0
 unfold G1x
 have e1:shI lf 1=lf*2 % 18446744073709551616:=C1q lf 1 (by omega)
 rw[e1,C1w al n (by omega),U2e _ b0 (by omega)]
 have e2:lf*2 % 18446744073709551616=lf % 9223372036854775808*2^1:=by omega
 rw[e2]
 exact N2v _ _ 1 (by omega) (by omega) (by omega) (by omega)
def ovT(lf al:Int)(k:Nat):Int:=lf*2^k+al % 2^k
def opre:List Int→Bool
 | [b,lf,q,i,_,al]=>decide (0≤lf∧lf<b∧b<18446744073709551616∧0≤al∧al<18446744073709551616∧-1≤i∧i≤63∧0≤q∧(q+1)*2^(i+1).toNat≤18446744073709551616)
 | _=>false
def Q1a:List Int→List Int:=K1w (fun b lf _ i al=>ovT lf al (i+1).toNat % b) (fun b lf q i al=>q*2^(i+1).toNat+ovT lf al (i+1).toNat / b)
theorem Y2d(lf al:Int)(n:Nat):ovT lf al (n+1)=(lf*2+al / 2^n % 2)*2^n+al % 2^n:=by
 unfold ovT
 have hz:(0:Int)<2^n:=Int.pow_pos (by omega)
 have h1:al % 2^(n+1)=al / 2^n % 2*2^n+al % 2^n:=by
  have e3:al=al / 2^n*2^n+al % 2^n:=(Int.ediv_mul_add_emod al _).symm
  have e4:al / 2^n=al / 2^n / 2*2+al / 2^n % 2:=by omega
  have r0:=Int.emod_nonneg al (b:=2^n) (by omega)
  have r1:=Int.emod_lt_of_pos al hz
  have hp:(2:Int)^(n+1)=2*2^n:=by rw[Int.pow_succ,Int.mul_comm]
  have b0:0≤al / 2^n % 2:=by omega
  have b1:al / 2^n % 2≤1:=by omega
  have hb:al / 2^n % 2*2^n≤1*2^n:=Int.mul_le_mul_of_nonneg_right b1 (by omega)
  have hb0:0≤al / 2^n % 2*2^n:=Int.mul_nonneg b0 (by omega)
  have e5:al=al / 2^n / 2*2^(n+1)+(al / 2^n % 2*2^n+al % 2^n):=by
   rw[hp,← Int.mul_assoc,← Int.add_assoc,← Int.add_mul,← e4];exact e3
  conv=>lhs;rw[e5]
  rw[Int.add_comm (al / 2^n / 2*2^(n+1)),Int.add_mul_emod_self_right]
  exact Int.emod_eq_of_lt (by omega) (by omega)
 rw[h1,Int.add_mul,Int.pow_succ]
 have:lf*(2^n*2)=lf*2*2^n:=by rw[Int.mul_assoc,Int.mul_comm 2]
 rw[this,Int.add_assoc]
theorem Y2e{b lf q ah al lf' q':Int}{n:Nat}(hn:n<64)(hp:opre [b,lf,q,n,ah,al]=true)
  (h:(lf'=lf*2+al / 2^n % 2-b∧q'=q*2+1∧b≤lf*2+al / 2^n % 2)∨(lf'=lf*2+al / 2^n % 2∧q'=q*2∧lf*2+al / 2^n % 2<b)) :
  opre [b,lf',q',(n:Int)-1,ah,al]=true∧Q1a [b,lf',q',(n:Int)-1,ah,al]=Q1a [b,lf,q,n,ah,al]:=by
 simp only[opre,decide_eq_true_eq]at hp
 obtain ⟨a1,a2,a3,a4,a5,a6,a7,a8,a9⟩:=hp
 have ek:((n:Int)+1).toNat=n+1:=by omega
 have ek2:((n:Int)-1+1).toNat=n:=by omega
 rw[ek]at a9
 have hz:(0:Int)<2^n:=Int.pow_pos (by omega)
 have hp2:(2:Int)^(n+1)=2*2^n:=by rw[Int.pow_succ,Int.mul_comm]
 have hq:(q+1)*2^(n+1)=(q*2+2)*2^n:=by rw[hp2,← Int.mul_assoc,Int.add_mul,Int.one_mul]
 rw[hq]at a9
 simp only[opre,decide_eq_true_eq,Q1a,K1w,ek,ek2]
 rw[Y2d]
 have hb0:b≠0:=by omega
 rcases h with ⟨rfl,rfl,h3⟩ | ⟨rfl,rfl,h3⟩
 ·have hT:(lf*2+al / 2^n % 2)*2^n+al % 2^n=ovT (lf*2+al / 2^n % 2-b) al n+2^n*b:=by
   unfold ovT
   rw[Int.sub_mul,Int.mul_comm b]
   omega
  rw[hT,Int.add_mul_emod_self_right,Int.add_mul_ediv_right _ _ hb0]
  refine ⟨⟨by omega,by omega,a3,a4,a5,by omega,by omega,by omega,?_⟩,?_⟩
  ·rw[show q*2+1+1=q*2+2 by omega];exact a9
  ·rw[show (q*2+1)*2^n=q*2^(n+1)+2^n by rw[hp2,Int.add_mul,Int.one_mul,Int.mul_assoc]]
   rw[show q*2^(n+1)+2^n+ovT (lf*2+al / 2^n % 2-b) al n / b=q*2^(n+1)+(ovT (lf*2+al / 2^n % 2-b) al n / b+2^n) by omega]
 ·have hT:(lf*2+al / 2^n % 2)*2^n+al % 2^n=ovT (lf*2+al / 2^n % 2) al n:=rfl
  rw[hT]
  refine ⟨⟨by omega,by omega,a3,a4,a5,by omega,by omega,by omega,?_⟩,?_⟩
  ·refine Int.le_trans (Int.mul_le_mul_of_nonneg_right ?_ (by omega)) a9
   omega
  ·rw[show q*2*2^n=q*2^(n+1) by rw[hp2,Int.mul_assoc]]
def V1e:M0e:=[(0,Y0h 51 ovSl ovFx ovG B1v opre Q1a)]
theorem Y2c:C0n (Tryz.f240.body.getD .skip)=[(0,.loop (J0u (K0k Tryz.f240 0))),(1,K0k Tryz.f240 1)]:=by kernel_rfl
theorem K5c:∀fn c,Tryz.prog.funcs[240]?=some fn→fn.body=some c→HFit Tryz.prog fn.ntmps V1e c:=by
 intro fn c hf hb
 rw[Tryz.func240]at hf
 cases hf
 have hn:Tryz.f240.ntmps=51:=by kernel_rfl
 have hc:Tryz.f240.body.getD .skip=c:=by rw[hb];rfl
 rw[hn]
 have hL:=Y2c
 rw[hc]at hL
 have hcall:∀β,D0t Tryz.prog (B0v Tryz.prog {gam:=[]} 1 β):=B0b GamOk.nil 1
 refine HFit.of fun p hp h hh s s' hs=>?_
 rw[hL]at hp
 simp only[List.mem_cons,List.not_mem_nil,or_false]at hp
 rcases hp with rfl | rfl
 ·have:h=Y0h 51 ovSl ovFx ovG B1v opre Q1a:=(Option.some.inj hh).symm
  subst this
  refine C4t hcall (F:=50) (wy:={}) (fun xs=>(xs.getD 3 0+1).toNat) ?_ s s' hs
  intro xs hlen hpre x lo hi step
  obtain ⟨b,lf,q,i,ah,al,rfl⟩:∃b lf q i ah al,xs=[b,lf,q,i,ah,al]:=by
   match xs,hlen with
   | [a,b,c,d,e,f],_=>exact ⟨a,b,c,d,e,f,rfl⟩
  have hr:=P2b b lf q i ah al x lo hi step
  unfold ovSt at hr
  rw[hr]
  have hpre':=hpre
  simp only[opre,decide_eq_true_eq]at hpre'
  obtain ⟨a1,a2,a3,a4,a5,a6,a7,a8,a9⟩:=hpre'
  by_cases hi0:i≥0
  ·obtain ⟨n,rfl⟩:∃n:Nat,i=n:=⟨i.toNat,by omega⟩
   have hi1:¬ ((n:Int)<0):=by omega
   simp only[hi0,hi1,decide_true,decide_false,cond_true,cond_false]
   rw[P2a (by omega) a4 a5,A0q (by omega) (by omega)]
   have e63:srI lf 63=lf / 9223372036854775808:=C1w lf 63 (by omega)
   have eq1:shI q 1=q*2 % 18446744073709551616:=C1q q 1 (by omega)
   have hz:(0:Int)<2^n:=Int.pow_pos (by omega)
   have hz1:(1:Int)≤2^n:=by omega
   have ek:((n:Int)+1).toNat=n+1:=by omega
   rw[ek]at a9
   have hp2:(2:Int)^(n+1)=2*2^n:=by rw[Int.pow_succ,Int.mul_comm]
   have hq2:q*2+2≤18446744073709551616:=by
    have h1:(q*2+2)*1≤(q*2+2)*2^n:=Int.mul_le_mul_of_nonneg_left hz1 (by omega)
    have h2:(q+1)*2^(n+1)=(q*2+2)*2^n:=by rw[hp2,← Int.mul_assoc,Int.add_mul,Int.one_mul]
    omega
   rw[e63,eq1,Int.emod_eq_of_lt (a:=q*2) (by omega) (by omega),A0r (z:=q*2+1) (by omega) (by omega),R0b]
   have step:∀lf' q':Int,((lf'=lf*2+al / 2^n % 2-b∧q'=q*2+1∧b≤lf*2+al / 2^n % 2)∨(lf'=lf*2+al / 2^n % 2∧q'=q*2∧lf*2+al / 2^n % 2<b)) →
     ∃ys,ys.length=J0k ovSl+P0a B1v∧opre ys=true∧(ys.getD 3 0+1).toNat<([b,lf,q,(n:Int),ah,al].getD 3 0+1).toNat∧Q1a ys=Q1a [b,lf,q,(n:Int),ah,al] ∧
      (some (Ex.normal,lqSt 51 ovSl ovFx ovG B1v [b,lf',q',(n:Int)-1,ah,al] x lo hi step):Option (Ex×St))=some (.normal,lqSt 51 ovSl ovFx ovG B1v ys x lo hi step):=by
    intro lf' q' h
    obtain ⟨k1,k2⟩:=Y2e (by omega) hpre h
    exact ⟨_,rfl,k1,by simp only[List.getD_cons_succ,List.getD_cons_zero];omega,k2,rfl⟩
   have hbit0:0≤al / 2^n % 2:=by omega
   have hbit1:al / 2^n % 2≤1:=by omega
   generalize hbit:al / 2^n % 2=t at *
   by_cases htop:lf / 9223372036854775808=1
   ·simp only[htop,BEq.rfl,cond_true]
    rw[show (lf*2 % 18446744073709551616+t-b) % 18446744073709551616=lf*2+t-b by omega]
    exact .inl (step _ _ (.inl ⟨rfl,rfl,by omega⟩))
   ·have ht:(lf / 9223372036854775808==1)=false:=by simp;exact htop
    rw[ht,cond_false]
    have e2:lf*2 % 18446744073709551616=lf*2:=by omega
    rw[e2]
    by_cases hge:lf*2+t≥b
    ·simp only[hge,decide_true,cond_true]
     rw[show (lf*2+t-b) % 18446744073709551616=lf*2+t-b by omega]
     exact .inl (step _ _ (.inl ⟨rfl,rfl,by omega⟩))
    ·simp only[hge,decide_false,cond_false]
     exact .inl (step _ _ (.inr ⟨rfl,rfl,by omega⟩))
  ·simp only[hi0,decide_false,cond_false]
   have:i=-1:=by omega
   subst this
   refine .inr ?_
   have hT:ovT lf al (-1+1:Int).toNat=lf:=by
    show lf*2^0+al % 2^0=lf
    simp
   simp only[Q1a,K1w,hT]
   rw[Int.emod_eq_of_lt a1 a2,Int.ediv_eq_zero_of_lt a1 a2]
   have hqq:q*2^(-1+1:Int).toNat+0=q:=by
    show q*2^0+0=q
    simp
   rw[hqq]
 ·simp[W0r,V1e]at hh
structure D3v(α β γ:Type) where
 a:α
 b:β
 c:γ
instance {α β γ:Type} [Cod α] [Cod β] [Cod γ]:Cod (D3v α β γ) where
 enc p:=.tuple #[Cod.enc p.a,Cod.enc p.b,Cod.enc p.c]
 dec v:=match v with
  | .tuple ⟨[a,b,c]⟩=>match Cod.dec a,Cod.dec b,Cod.dec c with | some x,some y,some z=>some ⟨x,y,z⟩ | _,_,_=>none
  | _=>none
 law v a h:=by
  split at h
  ·split at h
   ·rename_i h1 h2 h3
    cases h
    rw[Cod.law _ _ h1,Cod.law _ _ h2,Cod.law _ _ h3]
   ·cases h
  ·cases h
def T0v(p:Wd×U6×Unit):Bool:=p.1.ok&&word p.2.1.n
def X0g(p:Wd×U6×Unit):D3v U6 U6 Bool :=
 bif p.2.1.n==0||decide (p.1.h≥p.2.1.n) then ⟨⟨0⟩,⟨0⟩,false⟩ else ⟨⟨p.1.val / p.2.1.n⟩,⟨p.1.val % p.2.1.n⟩,true⟩
theorem J5n:A0h Tryz.prog 240 (S0c T0v X0g):=by
 refine H1q (E:={gam:=[]}) GamOk.nil (hB:=V1e) K5c 20 fun p hp=>?_
 obtain ⟨⟨ah,al⟩,⟨b⟩,_⟩:=p
 refine (Y2g opre (fun b lf _ i al=>ovT lf al (i+1).toNat % b) (fun b lf q i al=>q*2^(i+1).toNat+ovT lf al (i+1).toNat / b) ⟨ah,al⟩ b).trans ?_
 simp only[T0v,Wd.ok,word,Bool.and_eq_true,decide_eq_true_eq]at hp
 unfold X0g
 dsimp only
 by_cases h0:b=0
 ·subst h0;rfl
 have h0':(b==0)=false:=by simp;exact h0
 rw[h0']
 by_cases h1:ah≥b
 ·simp only[h1,decide_true,cond_true,cond_false,Bool.or_true];rfl
 simp only[h1,decide_false,cond_false,Bool.or_false]
 have hpre:opre [b,ah,0,63,ah,al]=true:=by
  simp only[opre,decide_eq_true_eq]
  refine ⟨by omega,by omega,by omega,by omega,by omega,by omega,by omega,by omega,?_⟩
  decide
 have hT:ovT ah al (63+1:Int).toNat=(Wd.mk ah al).val:=by
  show ah*2^64+al % 2^64=ah*18446744073709551616+al
  have:(2:Int)^64=18446744073709551616:=by decide
  rw[this]
  omega
 rw[hpre,cond_true,hT]
 have:(0:Int)*2^(63+1:Int).toNat+(Wd.mk ah al).val / b=(Wd.mk ah al).val / b:=by rw[Int.zero_mul,Int.zero_add]
 rw[this]
 rfl
def L1r{α:Type}(a b c:Int)(G:Bool→α):α :=
 bif decide (a<0) then (bif decide (b<0) then (bif decide (c<0) then G true else G false) else (bif decide (c<0) then G false else G true))
 else (bif decide (b<0) then (bif decide (c<0) then G false else G true) else (bif decide (c<0) then G true else G false))
theorem P3w(mp:U6×U6×Unit→Bool)(mv:U6×U6×Unit→Wd)(op:Wd×U6×Unit→Bool)(ov:Wd×U6×Unit→D3v U6 U6 Bool)(sz:Int×Unit→U6)(gv:Bool→U6×Bool×Unit→Int×Bool)(a b c:Int)(f:Bool) :
  fnSum Tryz.prog {gam:=[(125,S0c mp mv),(240,S0c op ov),(126,S0 sz),(128,S 59 gv)]} [] 20 161 [.ptr 0 0,.val (.int .i64 a),.val (.int .i64 b),.val (.int .i64 c)] (row 59 f) =
   let x:=sz (a,());let y:=sz (b,());let z:=sz (c,())
   let o:=ov (Wd.mk (mv (⟨x.n⟩,⟨y.n⟩,())).h (mv (⟨x.n⟩,⟨y.n⟩,())).l,⟨z.n⟩,())
   let bad:=some (AV.val (.int .i64 0),row 59 true)
   let G:=fun (q:Int) (s:Bool)=>some (AV.val (.int .i64 (gv f (⟨q⟩,s,())).1),row 59 (gv f (⟨q⟩,s,())).2)
   bif mp (⟨x.n⟩,⟨y.n⟩,()) then bif op (Wd.mk (mv (⟨x.n⟩,⟨y.n⟩,())).h (mv (⟨x.n⟩,⟨y.n⟩,())).l,⟨z.n⟩,()) then
    bif !o.c then bad else bif decide (o.a.n>4611686018427387904) then bad else
     bif decide (o.b.n≥IntKind.u64.wrap (z.n-o.b.n)) then L1r a b c (G (IntKind.u64.wrap (o.a.n+1))) else L1r a b c (G o.a.n)
   else none else none:=by kernel_rfl
theorem Q3y(a:Int):fnSum Tryz.prog {gam:=[]} [] 20 126 [.val (.int .i64 a)] [] =
  bif decide (a<0) then some (.val (.int .u64 (IntKind.u64.wrap (IntKind.i64.wrap (0-a)))),[]) else some (.val (.int .u64 (IntKind.u64.wrap a)),[]):=by kernel_rfl
theorem H3e(f s:Bool)(n:Int):fnSum Tryz.prog {gam:=[]} [] 20 128 [.ptr 0 0,.val (.int .u64 n),.val (.bool s)] (row 59 f) =
  bif decide (n>4611686018427387904) then some (.val (.int .i64 0),row 59 true) else bif s then some (.val (.int .i64 (IntKind.i64.wrap (0-IntKind.i64.wrap n))),row 59 f) else some (.val (.int .i64 (IntKind.i64.wrap n)),row 59 f):=by kernel_rfl
def szU(p:Int×Unit):U6:=⟨bif decide (p.1<0) then IntKind.u64.wrap (IntKind.i64.wrap (0-p.1)) else IntKind.u64.wrap p.1⟩
def gvU(f:Bool)(p:U6×Bool×Unit):Int×Bool :=
 bif decide (p.1.n>4611686018427387904) then (0,true) else (bif p.2.1 then IntKind.i64.wrap (0-IntKind.i64.wrap p.1.n) else IntKind.i64.wrap p.1.n,f)
theorem K4q:A0h Tryz.prog 126 (S0 szU):=by
 refine H0n (E:={gam:=[]}) GamOk.nil 20 fun a=>?_
 obtain ⟨a,_⟩:=a
 refine (Q3y a).trans ?_
 unfold szU
 dsimp only
 cases decide (a<0)<;>rfl
theorem M3z:A0h Tryz.prog 128 (S 59 gvU):=by
 refine S_ok (E:={gam:=[]}) GamOk.nil 20 fun f a=>?_
 obtain ⟨⟨n⟩,s,_⟩:=a
 refine (H3e f s n).trans ?_
 unfold gvU
 dsimp only
 cases decide (n>4611686018427387904)<;>cases s<;>rfl
theorem H1c{α:Type}(a b c:Int)(G:Bool→α):L1r a b c G=G (neg3 a b c):=by
 unfold L1r neg3
 cases decide (a<0)<;>cases decide (b<0)<;>cases decide (c<0)<;>rfl
theorem X0r{a:Int}(h:num a=true):(szU (a,())).n=iabs a:=(U0b h).1
theorem J5h:A0h Tryz.prog 161 (Sc 59 num3 ratV):=by
 have hG:GamOk Tryz.prog [(125,S0c B0h C0a),(240,S0c T0v X0g),(126,S0 szU),(128,S 59 gvU)]:=.cons X2k (.cons J5n (.cons K4q (.cons M3z .nil)))
 refine K0h (E:={gam:=[(125,S0c B0h C0a),(240,S0c T0v X0g),(126,S0 szU),(128,S 59 gvU)]}) hG 20 fun f p hp=>?_
 obtain ⟨a,b,c,_⟩:=p
 simp only[num3,Bool.and_eq_true]at hp
 obtain ⟨ha,hb,hc⟩:=hp
 refine (P3w B0h C0a T0v X0g szU gvU a b c f).trans ?_
 obtain ⟨a3,a4⟩:=G0g ha
 obtain ⟨b3,b4⟩:=G0g hb
 obtain ⟨c3,c4⟩:=G0g hc
 dsimp only
 rw[X0r ha,X0r hb,X0r hc,H1c,H1c]
 have n0:0≤iabs a*iabs b:=Int.mul_nonneg a3 b3
 have n1:iabs a*iabs b≤4611686018427387904*4611686018427387904:=Int.le_trans (Int.mul_le_mul_of_nonneg_right a4 b3) (Int.mul_le_mul_of_nonneg_left b4 (by omega))
 have hm:B0h (⟨iabs a⟩,⟨iabs b⟩,())=true:=by simp only[B0h,word,Bool.and_eq_true,decide_eq_true_eq];omega
 rw[hm,cond_true]
 unfold ratV H0b
 dsimp only
 have ht:C0a (⟨iabs a⟩,⟨iabs b⟩,())=⟨iabs a*iabs b / 18446744073709551616,iabs a*iabs b % 18446744073709551616⟩:=rfl
 rw[ht]
 generalize iabs a*iabs b=N at *
 generalize iabs c=z at *
 have ho:T0v (⟨N / 18446744073709551616,N % 18446744073709551616⟩,⟨z⟩,())=true:=by
  simp only[T0v,Wd.ok,word,Bool.and_eq_true,decide_eq_true_eq];omega
 rw[ho,cond_true]
 have hval:(Wd.mk (N / 18446744073709551616) (N % 18446744073709551616)).val=N:=by simp only[Wd.val];omega
 unfold X0g
 dsimp only
 rw[hval]
 by_cases hz:z=0
 ·subst hz
  rfl
 have hz':(z==0)=false:=by simp;exact hz
 have hzp:0<z:=by omega
 rw[hz']
 simp only[Bool.false_or]
 by_cases hh:N / 18446744073709551616≥z
 ·have:decide (N / z>4611686018427387904)=true:=by
   simp only[decide_eq_true_eq]
   have:4611686018427387905≤N / z:=(Int.le_ediv_iff_mul_le hzp).2 (by omega)
   omega
  simp only[hh,this,decide_true,cond_true,Bool.true_or,Bool.not_false]
  rfl
 simp only[hh,decide_false,cond_false,Bool.not_true]
 have q0:0≤N / z:=Int.ediv_nonneg n0 (by omega)
 have r0:=Int.emod_nonneg N (b:=z) (by omega)
 have r1:=Int.emod_lt_of_pos N hzp
 by_cases hq:N / z>4611686018427387904
 ·simp only[hq,decide_true,cond_true,Bool.true_or]
  rfl
 simp only[hq,decide_false,cond_false,Bool.false_or]
 rw[A0r (z:=z-N % z) (by omega) (by omega),A0r (z:=N / z+1) (by omega) (by omega)]
 have fin:∀q:Int,0≤q→q≤4611686018427387905→gvU f (⟨q⟩,neg3 a b c,())=bif decide (q>4611686018427387904) then ((0:Int),true) else (bif neg3 a b c then 0-q else q,f):=by
  intro q h0 h1
  unfold gvU
  dsimp only
  rw[A0q (z:=q) (by omega) (by omega),A0q (z:=0-q) (by omega) (by omega)]
 rw[fin _ (by omega) (by omega),fin _ (by omega) (by omega)]
 unfold rnd
 cases decide (N % z≥z-N % z)<;>rfl
theorem G2v:GamOk Tryz.prog [(161,Sc 59 num3 ratV)]:=.cons J5h .nil
theorem X2g:A0h Tryz.prog 80 (S 59 (op2 fmul)):=S_ok (E:={gam:=[(161,Sc 59 num3 ratV)]}) G2v 20 fun f p=>by
 obtain ⟨x,y,_⟩:=p
 exact ((D4q num3 ratV x y f).trans (C1h _ _ _)).trans (P1m 59 x y f)
theorem J5c:A0h Tryz.prog 114 (S 59 (op2 fdiv)):=S_ok (E:={gam:=[(161,Sc 59 num3 ratV)]}) G2v 20 fun f p=>by
 obtain ⟨x,y,_⟩:=p
 exact ((X3x num3 ratV x y f).trans (C1h _ _ _)).trans (N1a 59 x y f)
theorem K4k:A0h Tryz.prog 82 (S 59 (op3 G0m)):=S_ok (E:={gam:=[(161,Sc 59 num3 ratV)]}) G2v 20 fun f p=>by
 obtain ⟨x,y,z,_⟩:=p
 exact ((P3j num3 ratV x y z f).trans (C1h _ _ _)).trans (G1y 59 x y z f)
end Go.Ab
