/- A part of the proofs: lemmas, no statement of their own; no condition. -/
import Derived.Test.YtoocjipllmkjcaaGreatGAbA
import Derived.Laws.BytesString
import Derived.Laws.Concat
namespace Go.Ab
variable {β:Type}
def T0u(P:Program)(N:Nat)(tmps:List AV)(o:Oper)(rd:Wr)(K:Wr→Wr→Option β):Option β :=
 match L3u o.op&&o.op.operands.toList.all (U1b tmps) with
 | true=>match D0e P (execOp (D1g tmps) o) with
  | some (.value v)=>fin N o rd (.val v) [] K
  | _=>none
 | false=>none
def P3c(N:Nat)(tmps:List AV)(o:Oper)(rd:Wr)(x:Operand)(K:Wr→Wr→Option β):Option β :=
 match opd tmps x with
 | some (.ptr b f)=>fin N o rd (.ptr b f) [] K
 | some (.func f a c)=>fin N o rd (.func f a c) [] K
 | _=>none
def U1w(P:Program)(N:Nat)(tmps:List AV)(o:Oper)(rd:Wr)(s:TypeId)(x:Operand)(f:Nat)(K:Wr→Wr→Option β):Option β :=
 match opd tmps x,P.underlying s with
 | some (.ptr b off),some (.struct fs)=>match fs[f]? with
  | some fd=>match P.info? fd.type with
   | some i=>match decide (i.size=0) with
    | true=>none
    | false=>fin N o rd (.ptr b (off+fd.offset)) [] K
   | none=>none
  | none=>none
 | _,_=>none
def U1x(P:Program)(N:Nat)(tmps:List AV)(o:Oper)(rd:Wr)(t:TypeId)(x ix:Operand)(K:Wr→Wr→Option β):Option β :=
 match opd tmps x,opd tmps ix,P.underlying t with
 | some (.ptr b off),some (.val (.int _ n)),some (.array len elem)=>match P.info? elem with
  | some i=>match decide (0≤n∧n<(len:Int)) with
   | true=>fin N o rd (.ptr b (off+n.toNat*i.size)) [] K
   | false=>none
  | none=>none
 | some (.slice b off len _),some (.val (.int _ n)),some (.slice elem)=>match P.info? elem with
  | some i=>match decide (0≤n∧n<(len:Int)) with
   | true=>fin N o rd (.ptr b (off+n.toNat*i.size)) [] K
   | false=>none
  | none=>none
 | _,_,_=>none
def bdA(tmps:List AV)(x:Option Operand)(dflt top:Nat):Option Nat :=
 match x with
 | none=>some dflt
 | some x=>match opd tmps x with
  | some (.val (.int _ n))=>match decide (0≤n∧n≤(top:Int)) with
   | true=>some n.toNat
   | false=>none
  | _=>none
def V1c(P:Program)(N:Nat)(tmps:List AV)(o:Oper)(rd:Wr)(t:TypeId)(x:Operand)(lo hi mx:Option Operand)(K:Wr→Wr→Option β):Option β :=
 match mx,opd tmps x,P.underlying t with
 | none,some (.ptr b off),some (.array n elem)=>match P.info? elem,bdA tmps hi n n with
  | some i,some h=>match bdA tmps lo 0 h with
   | some l=>fin N o rd (.slice b (match decide (n=l) with | true=>off | false=>off+l*i.size) (h-l) (n-l)) [] K
   | none=>none
  | _,_=>none
 | none,some (.slice b off len cap),some (.slice elem)=>match P.info? elem,bdA tmps hi len cap with
  | some i,some h=>match bdA tmps lo 0 h with
   | some l=>fin N o rd (.slice b (match decide (cap=l) with | true=>off | false=>off+l*i.size) (h-l) (cap-l)) [] K
   | none=>none
  | _,_=>none
 | _,_,_=>none
def N3y(P:Program)(N:Nat)(tmps:List AV)(o:Oper)(rd:Wr)(t:TypeId)(x:Operand)(K:Wr→Wr→Option β):Option β :=
 match opd tmps x,P.underlying t with
 | some (.slice b off len _),some (.array n _)=>match decide (len<n) with
  | true=>none
  | false=>fin N o rd (.ptr b off) [] K
 | _,_=>none
def N2q(P:Program)(N:Nat)(tmps:List AV)(o:Oper)(rd:Wr)(t:TypeId)(x ix:Operand)(K:Wr→Wr→Option β):Option β :=
 match opd tmps x,opd tmps ix,P.underlying t with
 | some (.val (.string s)),some (.val (.int _ n)),some .string=>cond (decide (0≤n∧n<(s.size:Int))) (fin N o rd (.val (.int .u8 (s.data.toList.getD n.toNat 0).toNat)) [] K) none
 | _,_,_=>T0u P N tmps o rd K
def bdI(tmps:List AV)(x:Option Operand)(dflt:Nat):Option Int :=
 match x with
 | none=>some dflt
 | some x=>match opd tmps x with
  | some (.val (.int _ n))=>some n
  | _=>none
def P3b(P:Program)(N:Nat)(tmps:List AV)(o:Oper)(rd:Wr)(t:TypeId)(s:ByteArray)(lo hi mx:Option Operand)(K:Wr→Wr→Option β):Option β :=
 match mx,P.underlying t,bdI tmps lo 0,bdI tmps hi s.size with
 | none,some .string,some l,some h=>cond (decide (0≤l∧l≤h∧h≤(s.size:Int))) (fin N o rd (.val (.string (s.extract l.toNat h.toNat))) [] K) none
 | _,_,_,_=>none
def M1q:List AV→Option (List Int)
 | []=>some []
 | .val (.int .u8 n) :: r=>match M1q r with
  | some l=>some (n :: l)
  | none=>none
 | _=>none
def R0j(r:ByteArray)(n:Int):ByteArray:=r.push (UInt8.ofNat n.toNat)
def N2k(P:Program)(N:Nat)(tmps:List AV)(heap:Hp)(o:Oper)(rd:Wr)(src dst:TypeId)(x:Operand)(K:Wr→Wr→Option β):Option β :=
 match opd tmps x,P.underlying src,P.underlying dst with
 | some (.slice b off len _),some (.slice e),some .string=>match P.underlying e,hget heap b with
  | some (.int .u8),some (.row e' cs)=>match M1q ((cs.drop off).take len) with
   | some ns=>match Nat.beq ns.length len with
    | true=>fin N o ((.blk b,.row e' cs) :: rd) (.val (.string (ns.foldl R0j ByteArray.empty))) [] K
    | false=>none
   | none=>none
  | _,_=>none
 | _,_,_=>T0u P N tmps o rd K
def N2r(N:Nat)(tmps:List AV)(o:Oper)(rd:Wr)(c x y:Operand)(K:Wr→Wr→Option β):Option β :=
 match opd tmps c,opd tmps x,opd tmps y with
 | some (.val (.bool t)),some (.val (.bool p)),some (.val (.bool q))=>fin N o rd (.val (.bool (cond t p q))) [] K
 | some (.val (.bool t)),some p,some q=>cond t (fin N o rd p [] K) (fin N o rd q [] K)
 | _,_,_=>none
def N2m(P:Program)(N:Nat)(tmps:List AV)(heap:Hp)(o:Oper)(rd:Wr)(t:TypeId)(x:Operand)(K:Wr→Wr→Option β):Option β :=
 match opd tmps x with
 | some (.ptr b off)=>match hget heap b with
  | some (.row e cs)=>match W2m P t cs off with
   | some r=>fin N o ((.blk b,.row e cs) :: rd) r [] K
   | none=>none
  | _=>none
 | _=>none
def V1d(P:Program)(tmps:List AV)(heap:Hp)(o:Oper)(rd:Wr)(t:TypeId)(x y:Operand)(K:Wr→Wr→Option β):Option β :=
 match o.dst with
 | some _=>none
 | none=>match opd tmps x,opd tmps y with
  | some (.ptr b off),some v=>match hget heap b with
   | some (.row e cs)=>match R2h P t cs off v with
    | some cs'=>K ((.blk b,.row e cs) :: rd) [(.blk b,.row e cs')]
    | none=>none
   | _=>none
  | _,_=>none
def U1r(P:Program)(N:Nat)(o:Oper)(rd:Wr)(elem:TypeId)(lo hi:Nat)(K:Wr→Wr→Option β):Option β :=
 match P.info? elem,decide (lo<hi) with
 | some i,true=>match i.zero with
  | some z=>fin N o rd (.ptr lo 0) [(.blk lo,.row elem (z.cells.toList.map .val))] K
  | none=>none
 | _,_=>none
def P3a(N:Nat)(tmps:List AV)(o:Oper)(rd:Wr)(elem:TypeId)(x:Operand)(lo hi:Nat)(K:Wr→Wr→Option β):Option β :=
 match opd tmps x,decide (lo<hi) with
 | some v,true=>match cellsOf v with
  | some cs=>fin N o rd (.ptr lo 0) [(.blk lo,.row elem cs)] K
  | none=>none
 | _,_=>none
def H0x(P:Program)(t:TypeId)(len:Nat)(parts:List (Nat×Value)):Option (TypeId×List Value) :=
 match P.underlying t with
 | some (.slice elem)=>match P.info? elem with
  | some i=>match decide (len*i.size>2^24),decide (len*i.size=0),i.zero with
   | false,false,some z=>match Instr.fill (fun j=>some (j*i.size,i.size)) ((Array.range (len*i.size)).map (z.cells[· % z.cells.size]!)) parts with
    | some cells=>some (elem,cells.toList)
    | none=>none
   | _,_,_=>none
  | none=>none
 | _=>none
def opdL(tmps:List AV):List Operand→Option (List AV)
 | []=>some []
 | x :: r=>match opd tmps x,opdL tmps r with
  | some a,some l=>some (a :: l)
  | _,_=>none
def L1p:Nat→List (Nat×Operand)→Bool
 | _,[]=>true
 | k,p :: r=>Nat.beq p.1 k&&L1p (k+1) r
def X1a:List AV→Bool
 | []=>true
 | .ptr _ _ :: r=>X1a r
 | _=>false
def T0r(P:Program)(N:Nat)(tmps:List AV)(o:Oper)(rd:Wr)(t:TypeId)(len:Nat)(parts:Array (Nat×Operand))(lo hi:Nat)(K:Wr→Wr→Option β):Option β :=
 match P.underlying t,opdL tmps (parts.toList.map (·.2)) with
 | some (.slice elem),some as=>match P.info? elem,L1p 0 parts.toList&&(X1a as&&(Nat.beq as.length len&&decide (lo<hi))) with
  | some i,true=>match i.zero,Nat.beq i.size 1,decide (len*i.size>2^24),decide (len*i.size=0) with
   | some z,true,false,false=>match Nat.beq z.cells.size 1 with
    | true=>fin N o rd (.slice lo 0 len len) [(.blk lo,.row elem as)] K
    | false=>none
   | _,_,_,_=>none
  | _,_=>none
 | _,_=>none
def Q0b(P:Program)(N:Nat)(tmps:List AV)(o:Oper)(rd:Wr)(t:TypeId)(len:Nat)(parts:Array (Nat×Operand))(lo hi:Nat)(K:Wr→Wr→Option β):Option β :=
 match (parts.toList.map (·.2)).all (U1b tmps),decide (lo<hi) with
 | true,true=>match H0x P t len (parts.toList.map fun p=>(p.1,D1g tmps p.2)) with
  | some (elem,cells)=>fin N o rd (.slice lo 0 len len) [(.blk lo,.row elem (cells.map .val))] K
  | none=>none
 | false,true=>T0r P N tmps o rd t len parts lo hi K
 | _,_=>none
def one1:AV→Bool
 | .ptr _ _=>true
 | .map _=>true
 | .val (.int _ _)=>true
 | .val (.bool _)=>true
 | .val (.string _)=>true
 | _=>false
def Q1x:List AV→List (Nat×AV)→Option (List AV)
 | cs,[]=>some cs
 | cs,(k,a) :: r=>match one1 a&&Nat.blt k cs.length with
  | true=>Q1x (cs.set k a) r
  | false=>none
def X2e(P:Program)(fs:Array Field)(i:Nat):Option Nat:=match fs[i]? with
 | some fd=>(match P.info? fd.type with
  | some ti=>(match Nat.beq ti.size 1 with | true=>some fd.offset | false=>none)
  | none=>none)
 | none=>none
def P1n(P:Program)(fs:Array Field):List Nat→Option (List Nat)
 | []=>some []
 | i :: r=>match X2e P fs i,P1n P fs r with
  | some o,some l=>some (o :: l)
  | _,_=>none
def K1t(P:Program)(N:Nat)(tmps:List AV)(o:Oper)(rd:Wr)(t:TypeId)(parts:Array (Nat×Operand))(K:Wr→Wr→Option β):Option β :=
 match P.underlying t,opdL tmps (parts.toList.map (·.2)),(P.info? t).bind (·.zero) with
 | some (.struct fs),some as,some z=>match fs.toList.all (fun f=>(P.info? f.type).isSome),P1n P fs (parts.toList.map (·.1)) with
  | true,some offs=>match Q1x (z.cells.toList.map .val) (offs.zip as) with
   | some l=>fin N o rd (.agg l) [] K
   | none=>none
  | _,_=>none
 | _,_,_=>none
def U1t(P:Program)(N:Nat)(tmps:List AV)(o:Oper)(rd:Wr)(t:TypeId)(parts:Array (Nat×Operand))(K:Wr→Wr→Option β):Option β :=
 match (parts.toList.map (·.2)).all (U1b tmps) with
 | true=>T0u P N tmps o rd K
 | false=>K1t P N tmps o rd t parts K
def X0d(N:Nat)(tmps:List AV)(o:Oper)(rd:Wr)(fn:Fn)(first captured:Array Operand)(K:Wr→Wr→Option β):Option β :=
 match fn,opdL tmps first.toList,opdL tmps captured.toList with
 | .func f,some a,some b=>fin N o rd (.func f a b) [] K
 | _,_,_=>none
def B1p(P:Program)(N:Nat)(tmps:List AV)(o:Oper)(rd:Wr)(x:Operand)(ix:Nat)(K:Wr→Wr→Option β):Option β :=
 match opd tmps x with
 | some (.tuple vs)=>match vs[ix]? with
  | some a=>fin N o rd a [] K
  | none=>none
 | _=>T0u P N tmps o rd K
def N3z(P:Program)(N:Nat)(tmps:List AV)(o:Oper)(rd:Wr)(op:BinOp)(t:TypeId)(x y:Operand)(K:Wr→Wr→Option β):Option β :=
 match opd tmps x,opd tmps y with
 | some (.val (.int k a)),some (.val (.int k' b))=>match op with
  | .shl=>cond (decide (b<0)) none (fin N o rd (.val (.int k (k.wrap (a*2^min b.toNat k.bits)))) [] K)
  | .shr=>cond (decide (b<0)) none (fin N o rd (.val (.int k (a.fdiv (2^min b.toNat k.bits)))) [] K)
  | .quo=>match decide (k=k') with
   | true=>cond (b==0) none (fin N o rd (.val (.int k (k.wrap (a.tdiv b)))) [] K)
   | false=>none
  | .rem=>match decide (k=k') with
   | true=>cond (b==0) none (fin N o rd (.val (.int k (a.tmod b))) [] K)
   | false=>none
  | _=>T0u P N tmps o rd K
 | some (.ptr _ _),some (.val (.pointer none))=>match op,P.underlying t with
  | .eql,some (.pointer _)=>fin N o rd (.val (.bool false)) [] K
  | .neq,some (.pointer _)=>fin N o rd (.val (.bool true)) [] K
  | _,_=>none
 | some (.val (.string a)),some (.val (.string b))=>match op with
  | .add=>cond (decide (((a.size+b.size:Nat):Int)>9223372036854775807)) none (fin N o rd (.val (.string (a++b))) [] K)
  | _=>T0u P N tmps o rd K
 | some (.val (.agg xs)),some (.val (.agg ys))=>match op,P.eqGuardType P.depth t,eqT P 100 t (.agg xs) (.agg ys) with
  | .eql,false,some r=>fin N o rd (.val (.bool r)) [] K
  | .neq,false,some r=>fin N o rd (.val (.bool (!r))) [] K
  | _,_,_=>none
 | _,_=>T0u P N tmps o rd K
def N2p(N:Nat)(tmps:List AV)(o:Oper)(rd:Wr)(x:Operand)(K:Wr→Wr→Option β):Option β :=
 match opd tmps x with
 | some a=>fin N o rd a [] K
 | none=>none
def J3g(P:Program)(t:TypeId)(es:Array MapEntry)(key:Value)(ok:Bool):Option Value :=
 match P.underlying t with
 | some (.map kt et)=>match D0e P (Instr.checkKey es.isEmpty 10000 kt key),D0e P (Instr.findKey kt key es.toList),(P.info? et).bind (·.zero) with
  | some (),some (some (_,v)),_=>some (match ok with | true=>.tuple #[v,.bool true] | false=>v)
  | some (),some none,some z=>some (match ok with | true=>.tuple #[z,.bool false] | false=>z)
  | _,_,_=>none
 | _=>none
def putA(P:Program)(t:TypeId)(es:Array MapEntry)(clock:Nat)(key val:Value):Option (Array MapEntry×Nat) :=
 match P.underlying t with
 | some (.map kt _)=>match D0e P (Instr.checkKey false 10000 kt key),D0e P (Instr.findKey kt key es.toList) with
  | some (),some (some (i,_))=>match D0e P (Instr.keyThatStays (((es[i]?).map (·.key)).getD key) key) with
   | some key'=>some (es.modify i fun e=>{e with key:=key',val},clock)
   | none=>none
  | some (),some none=>some (es.push {key,val,born:=clock},clock+1)
  | _,_=>none
 | _=>none
def B2n(P:Program)(kt:TypeId)(key:Value):List Value→Option Bool
 | []=>some false
 | k :: _ :: r=>match eqT P 100 kt key k,B2n P kt key r with
  | some b,some q=>some (b||q)
  | _,_=>none
 | _=>none
def V0u(v:Value):List Value→Bool
 | []=>true
 | _ :: x :: r=>match v,x with
  | .int k n,.int k' n'=>decide (k=k')&&decide (n=n')&&V0u v r
  | _,_=>false
 | _=>false
def U1p(ok:Bool)(v:Value):Value:=match ok with | true=>.tuple #[v,.bool true] | false=>v
def J3j(P:Program)(t:TypeId)(buf:List Value)(key:Value):Option (Bool×Value) :=
 match P.underlying t with
 | some (.map kt _)=>match P.underlying kt,D0e P (Instr.checkKey false 10000 kt key),B2n P kt key buf,buf with
  | some (.struct _),some (),some b,_ :: v :: _=>match V0u v buf with
   | true=>some (b,v)
   | false=>none
  | _,_,_,_=>none
 | _=>none
def Q1w(P:Program)(kt:TypeId)(key:Value):List Value→Option (Option (Bool×Value))
 | []=>some none
 | k :: .bool p :: v :: r=>match eqT P 100 kt key k,Q1w P kt key r with
  | some true,some none=>some (some (p,v))
  | some false,some x=>some x
  | _,_=>none
 | _=>none
def putT(P:Program)(kt:TypeId)(key val:Value):List Value→Option (List Value)
 | []=>some [key,.bool true,val]
 | k :: .bool p :: v :: r=>match eqT P 100 kt key k with
  | some true=>match Q1w P kt key r,Instr.sameBits 10000 k key with
   | some none,true=>some (key :: .bool true :: val :: r)
   | _,_=>none
  | some false=>match putT P kt key val r with
   | some r'=>some (k :: .bool p :: v :: r')
   | none=>none
  | none=>none
 | _=>none
def U1m(ok:Bool)(z:Value):Value:=match ok with | true=>.tuple #[z,.bool false] | false=>z
def J3k(P:Program)(t:TypeId)(buf:List Value)(key:Value):Option (Option (Bool×Value)×Value) :=
 match P.underlying t with
 | some (.map kt et)=>match D0e P (Instr.checkKey false 10000 kt key),D0e P (Instr.checkKey true 10000 kt key),(P.info? et).bind (·.zero),Q1w P kt key buf,(P.underlying kt).isSome with
  | some (),some (),some z,some x,true=>some (x,z)
  | _,_,_,_,_=>none
 | _=>none
def putK(P:Program)(t:TypeId)(buf:List Value)(key val:Value):Option (List Value) :=
 match P.underlying t with
 | some (.map kt _)=>match D0e P (Instr.checkKey false 10000 kt key),(P.underlying kt).isSome with
  | some (),true=>putT P kt key val buf
  | _,_=>none
 | _=>none
def B1r(N:Nat)(o:Oper)(rd:Wr)(r:Option Operand)(lo hi:Nat)(K:Wr→Wr→Option β):Option β :=
 match r,decide (lo<hi) with
 | none,true=>fin N o rd (.map lo) [(.blk lo,.obj (.map #[] 0))] K
 | _,_=>none
def P3d(P:Program)(tmps:List AV)(heap:Hp)(o:Oper)(rd:Wr)(t:TypeId)(m x y:Operand)(K:Wr→Wr→Option β):Option β :=
 match o.dst with
 | some _=>none
 | none=>match opd tmps m,opd tmps x,opd tmps y with
  | some (.map b),some (.val k),some (.val v)=>match hget heap b with
   | some (.obj (.map es c))=>match putA P t es c k v with
    | some (es',c')=>K ((.blk b,.obj (.map es c)) :: rd) [(.blk b,.obj (.map es' c'))]
    | none=>none
   | some (.obj (.chan (n+1) buf x1 x2 x3 x4))=>match putK P t buf.toList k v with
    | some buf'=>K ((.blk b,.obj (.chan (n+1) buf x1 x2 x3 x4)) :: rd) [(.blk b,.obj (.chan (n+1) (List.toArray buf') x1 x2 x3 x4))]
    | none=>none
   | _=>none
  | _,_,_=>none
def N2n(P:Program)(N:Nat)(tmps:List AV)(heap:Hp)(o:Oper)(rd:Wr)(t:TypeId)(m x:Operand)(ok:Bool)(K:Wr→Wr→Option β):Option β :=
 match opd tmps m,opd tmps x with
 | some (.map b),some (.val k)=>match hget heap b with
  | some (.obj (.map es c))=>match J3g P t es k ok with
   | some v=>fin N o ((.blk b,.obj (.map es c)) :: rd) (.val v) [] K
   | none=>none
  | some (.obj (.chan 0 buf x1 x2 x3 x4))=>match J3j P t buf.toList k with
   | some (y,v)=>cond y (fin N o ((.blk b,.obj (.chan 0 buf x1 x2 x3 x4)) :: rd) (.val (U1p ok v)) [] K) none
   | none=>none
  | some (.obj (.chan (n+1) buf x1 x2 x3 x4))=>match J3k P t buf.toList k with
   | some (some (p,v),z)=>cond p (fin N o ((.blk b,.obj (.chan (n+1) buf x1 x2 x3 x4)) :: rd) (.val (U1p ok v)) [] K) (fin N o ((.blk b,.obj (.chan (n+1) buf x1 x2 x3 x4)) :: rd) (.val (U1m ok z)) [] K)
   | some (none,z)=>fin N o ((.blk b,.obj (.chan (n+1) buf x1 x2 x3 x4)) :: rd) (.val (U1m ok z)) [] K
   | none=>none
  | _=>none
 | _,_=>none
def hpRd(H:Hp):Wr:=H.map fun p=>(.blk p.1,p.2)
def U1a (fn : Func) : Bool := fn.body.isNone && (fn.name == "math/bits.Add64" && fn.origin == "")
def N2h(N:Nat)(o:Oper)(rd:Wr)(fn:Func)(l:List AV)(K:Wr→Wr→Option β):Option β :=
 match l with
 | [.val (.int .u64 x),.val (.int .u64 y),.val (.int .u64 c)]=>match U1a fn with
  | true=>bif decide (0≤x)&&(decide (0≤y)&&(decide (0≤c)&&decide (c≤1))) then fin N o rd (.val (.tuple #[.int .u64 ((x+y+c) % 18446744073709551616),.int .u64 ((x+y+c) / 18446744073709551616)])) [] K else none
  | false=>none
 | _=>none
def K1q(P:Program)(N:Nat)(tmps:List AV)(heap:Hp)(o:Oper)(rd:Wr)(c:Call)(K:Wr→Wr→Option β):Option β :=
 match c.args.toList,c.argTypes.toList with
 | [x,y],[t,u]=>match opd tmps x,opd tmps y,P.underlying t,P.underlying u with
  | some (.slice b off len cap),some (.slice b2 off2 n _),some (.slice e),some (.slice _)=>match hget heap b,hget heap b2,P.info? e with
   | some (.row e1 cs),some (.row e2 cs2),some i=>match Nat.beq i.size 1&&(Nat.ble (len+n) cap&&(Nat.ble (off+len+n) cs.length&&(Nat.beq ((cs2.drop off2).take n).length n&&((cs2.drop off2).take n).all oneA))) with
    | true=>fin N o ((.blk b,.row e1 cs) :: (.blk b2,.row e2 cs2) :: rd) (.slice b off (len+n) cap) [(.blk b,.row e1 (splice cs (off+len) ((cs2.drop off2).take n)))] K
    | false=>none
   | _,_,_=>none
  | _,_,_,_=>T0u P N tmps o rd K
 | _,_=>T0u P N tmps o rd K
def T0t(P:Program)(N:Nat)(tmps:List AV)(o:Oper)(rd:Wr)(t:TypeId)(x y:Operand)(lo hi:Nat)(K:Wr→Wr→Option β):Option β :=
 match opd tmps x,opd tmps y,P.underlying t with
 | some (.val (.int _ l)),some (.val (.int _ c)),some (.slice e)=>match P.info? e with
  | some i=>match i.zero,decide (0≤l∧l≤c∧c≤1000000∧i.bytes*c≤2^48)&&(decide (lo<hi)&&Nat.beq i.size 1) with
   | some z,true=>match z.cells.toList with
    | [v]=>match Nat.beq c.toNat 0 with
     | true=>none
     | false=>fin N o rd (.slice lo 0 l.toNat c.toNat) [(.blk lo,.row e (List.replicate c.toNat (.val v)))] K
    | _=>none
   | _,_=>none
  | none=>none
 | _,_,_=>none
def N2j(P:Program)(call:R0c β)(N:Nat)(tmps:List AV)(heap:Hp)(o:Oper)(rd:Wr)(c:Call)(lo hi:Nat)(K:Wr→Wr→Option β):Option β :=
 match c.callee with
 | .value f=>match opd tmps f,opdL tmps c.args.toList with
  | some (.func fid first cap),some args=>match P.funcs[fid]? with
   | some fn => match fn.body.isSome && !(fn.name == "runtime.NumGoroutine") with
    | true =>
     let all:=(first++args)++cap
     let H:=C0u heap (reach 1000 heap (E0e all) [])
     match noAv H with
     | true=>call fid all H lo hi fun r H' T=>match B3m H' H with
      | true=>fin N o (hpRd H++rd) r (hpWr (A2h T H')) K
      | false=>none
     | false=>none
    | false=>N2h N o rd fn ((first++args)++cap) K
   | none=>none
  | _,_=>none
 | .builtin .len=>match c.args.toList,c.argTypes.toList with
  | [x],t :: _=>match opd tmps x with
   | some (.slice _ _ len _)=>match P.underlying t with
    | some (.slice _)=>fin N o rd (.val (.int .i64 len)) [] K
    | _=>none
   | _=>T0u P N tmps o rd K
  | _,_=>none
 | .builtin .append=>K1q P N tmps heap o rd c K
 | .builtin _=>T0u P N tmps o rd K
 | .invoke ..=>none
def P1u(P:Program)(call:R0c β)(N:Nat)(tmps:List AV)(heap:Hp)(o:Oper)(rd0:Wr)(lo hi:Nat)(K:Wr→Wr→Option β):Option β :=
 let rd:=rd0++D0q tmps o
 match o.op with
 | .move x | .assign x=>N2p N tmps o rd x K
 | .pick c x y=>N2r N tmps o rd c x y K
 | .nilCheck x=>P3c N tmps o rd x K
 | .fieldAddr s x f=>U1w P N tmps o rd s x f K
 | .indexAddr t x ix=>U1x P N tmps o rd t x ix K
 | .slice t x l h m=>match opd tmps x with
  | some (.val (.string s))=>P3b P N tmps o rd t s l h m K
  | some (.val _)=>T0u P N tmps o rd K
  | _=>V1c P N tmps o rd t x l h m K
 | .sliceToArrayPointer t x=>N3y P N tmps o rd t x K
 | .load t x=>N2m P N tmps heap o rd t x K
 | .store t x y=>V1d P tmps heap o rd t x y K
 | .alloc e=>U1r P N o rd e lo hi K
 | .box e x=>P3a N tmps o rd e x lo hi K
 | .buildSlice t len parts=>Q0b P N tmps o rd t len parts lo hi K
 | .makeFunc fn a b=>X0d N tmps o rd fn a b K
 | .extract x ix=>B1p P N tmps o rd x ix K
 | .call c=>N2j P call N tmps heap o rd c lo hi K
 | .binOp op t x y _=>N3z P N tmps o rd op t x y K
 | .makeMap _ r=>B1r N o rd r lo hi K
 | .makeSlice t x y=>T0t P N tmps o rd t x y lo hi K
 | .mapUpdate t m x y | .insert t m x y=>P3d P tmps heap o rd t m x y K
 | .lookup t m x ok=>N2n P N tmps heap o rd t m x ok K
 | .index t x ix=>N2q P N tmps o rd t x ix K
 | .convert src dst x=>N2k P N tmps heap o rd src dst x K
 | .build t parts=>U1t P N tmps o rd t parts K
 | .unOp .. | .field .. | .makeInterface ..=>T0u P N tmps o rd K
 | _=>none
def conc(tmps:List AV)(c:Operand)(b:Bool):List AV :=
 match c with
 | .tmp t=>tmps.set t (.val (.bool b))
 | _=>tmps
def P3e(P:Program)(call:R0c β)(N:Nat)(ops:Array Oper)(tmps:List AV)(heap:Hp)(o:Oper)(lo hi:Nat)(K:List AV→Wr→Wr→Option β):Option β :=
 match o.guard with
 | none=>P1u P call N tmps heap o [] lo hi (K tmps)
 | some (g,want)=>match (ops[g]?).bind (·.dst) with
  | none=>none
  | some t=>match tmps[t]? with
   | some (.val (.bool b))=>match want with
    | true=>cond b (P1u P call N (conc tmps (.tmp t) true) heap o [(.tmp t,.av (.val (.bool true)))] lo hi (K (conc tmps (.tmp t) true))) (fin N o [(.tmp t,.av (.val (.bool false)))] (.val undef) [] (K (conc tmps (.tmp t) false)))
    | false=>cond b (fin N o [(.tmp t,.av (.val (.bool true)))] (.val undef) [] (K (conc tmps (.tmp t) true))) (P1u P call N (conc tmps (.tmp t) false) heap o [(.tmp t,.av (.val (.bool false)))] lo hi (K (conc tmps (.tmp t) false)))
   | some (.val (.tuple vs))=>fin N o [(.tmp t,.av (.val (.tuple vs)))] (.val undef) [] (K tmps)
   | _=>none
end Go.Ab
namespace Go.Ab
variable {β:Type}
def stU(tmps:List AV)(heap:Hp):U
 | .tmp t=>(tmps[t]?).map .av
 | .blk b=>hget heap b
def Good(tmps:List AV)(heap:Hp)(rd:Wr):Prop:=∀x∈rd,stU tmps heap x.1=some x.2
theorem N1r(tmps:List AV)(heap:Hp)(x:Operand):Good tmps heap (rdOf tmps x):=by
 intro p hp
 unfold rdOf at hp
 split at hp
 ·split at hp
  ·rename_i a h;simp at hp;subst hp;simp[stU,h]
  ·cases hp
 ·cases hp
theorem A2c(tmps:List AV)(heap:Hp)(o:Oper):Good tmps heap (D0q tmps o):=by
 intro p hp
 obtain ⟨x,_,hx⟩:=List.mem_flatMap.1 hp
 exact N1r tmps heap x p hx
theorem Good.append{tmps:List AV}{heap:Hp}{a b:Wr}(h:Good tmps heap a)(k:Good tmps heap b):Good tmps heap (a++b) :=
 fun x hx=>(List.mem_append.1 hx).elim (h x) (k x)
theorem Good.cons{tmps:List AV}{heap:Hp}{b:Nat}{c:Con}{rd:Wr}(h:hget heap b=some c)(k:Good tmps heap rd):Good tmps heap ((.blk b,c) :: rd) :=
 fun x hx=>(List.mem_cons.1 hx).elim (fun e=>by subst e;exact h) (k x)
def Done(P:Program)(N:Nat)(ops:Array Oper)(i:Nat)(tmps:List AV)(heap:Hp)(lo hi:Nat)(K:Wr→Wr→Option β)(res:β):Prop :=
 ∃rd wr,K rd wr=some res∧Good tmps heap rd∧Exec P N ops i rd wr lo hi
def Want(N:Nat)(ops:Array Oper)(o:Oper)(rd:Wr):Prop :=
 ∀w0 own σ u a w,Fits N w0 own σ u a w→(∀x∈rd,u x.1=some x.2)→Region.wanted o (yielded ops a.tmps)=true
section
variable {P:Program} {N:Nat} {ops:Array Oper} {i:Nat} {tmps:List AV} {heap:Hp} {o:Oper} {rd:Wr} {lo hi:Nat} {K:Wr→Wr→Option β} {res:β}
theorem A0v{r:AV}(ho:ops[i]?=some o)(hw:Want N ops o rd)(hg:Good tmps heap rd)(h:fin N o rd r [] K=some res)
  (hrun:∀w0 own σ u a w,Fits N w0 own σ u a w→(∀x∈rd,u x.1=some x.2)→∃x,(execOp a.eval o).run P w=.ok (.value x) w∧Rel σ r x):Done P N ops i tmps heap lo hi K res:=by
 obtain ⟨rd',wr,h1,rfl,h2⟩:=G2b (P:=P) (lo:=lo) (hi:=hi) ho h hw hrun
 exact ⟨rd',wr,h1,hg,h2⟩
theorem D0a(ho:ops[i]?=some o)(hw:Want N ops o rd)(hg:Good tmps heap rd)(hsub:∀p∈D0q tmps o,p∈rd)(h:T0u P N tmps o rd K=some res):Done P N ops i tmps heap lo hi K res:=by
 unfold T0u at h
 split at h
 ·rename_i hc
  simp only[Bool.and_eq_true]at hc
  split at h
  ·rename_i v hv
   refine A0v ho hw hg h fun w0 own σ u a w hf hr=>⟨v,?_,by simp[Rel]⟩
   rw[V2h hf (fun p hp=>hr p (hsub p hp)) hc.1 hc.2]
   exact A0y hv w
  ·cases h
 ·cases h
theorem B1t{x:Operand}(hop:o.op=.move x∨o.op=.assign x)(ho:ops[i]?=some o)(hw:Want N ops o rd)(hg:Good tmps heap rd)(hsub:∀p∈D0q tmps o,p∈rd)(h:N2p N tmps o rd x K=some res):Done P N ops i tmps heap lo hi K res:=by
 unfold N2p at h
 split at h
 ·rename_i a ha
  refine A0v ho hw hg h fun w0 own σ u a' w hf hr=>⟨a'.eval x,?_,?_⟩
  ·rcases hop with e | e<;>simp[execOp,e]
  ·refine A0n hf (fun p hp=>hr p (hsub p ?_)) ha
   refine List.mem_flatMap.2 ⟨x,?_,hp⟩
   rcases hop with e | e<;>simp[e,Op.operands]
 ·cases h
theorem A0d{x:Operand}(hx:x∈o.op.operands)(hsub:∀p∈D0q tmps o,p∈rd){u:U}(hr:∀p∈rd,u p.1=some p.2):∀p∈rdOf tmps x,u p.1=some p.2 :=
 fun p hp=>hr p (hsub p (List.mem_flatMap.2 ⟨x,by simpa using hx,hp⟩))
theorem B2h{x:Operand}(hop:o.op=.nilCheck x)(ho:ops[i]?=some o)(hw:Want N ops o rd)(hg:Good tmps heap rd)(hsub:∀p∈D0q tmps o,p∈rd)(h:P3c N tmps o rd x K=some res):Done P N ops i tmps heap lo hi K res:=by
 have hx:x∈o.op.operands:=by simp[hop,Op.operands]
 unfold P3c at h
 split at h
 ·rename_i b f ha
  refine A0v ho hw hg h fun w0 own σ u a' w hf hr=>?_
  have :=A0n hf (A0d hx hsub hr) ha
  refine ⟨a'.eval x,?_,this⟩
  simp only[Rel]at this
  obtain ⟨r,_,e⟩:=this
  simp[execOp,hop,e]
 ·rename_i f fs cs ha
  refine A0v ho hw hg h fun w0 own σ u a' w hf hr=>?_
  have :=A0n hf (A0d hx hsub hr) ha
  refine ⟨a'.eval x,?_,this⟩
  simp only[Rel]at this
  obtain ⟨xs,ys,e,_⟩:=this
  simp[execOp,hop,e]
 ·cases h
theorem G0a(r off n:Nat):(⟨r,off,none⟩:Addr).add n=⟨r,off+n,none⟩:=by
 unfold Addr.add
 split
 ·simp_all
 ·rfl
theorem P1w{s:TypeId}{x:Operand}{f:Nat}(hop:o.op=.fieldAddr s x f)(ho:ops[i]?=some o)(hw:Want N ops o rd)(hg:Good tmps heap rd)(hsub:∀p∈D0q tmps o,p∈rd)(h:U1w P N tmps o rd s x f K=some res):Done P N ops i tmps heap lo hi K res:=by
 have hx:x∈o.op.operands:=by simp[hop,Op.operands]
 unfold U1w at h
 split at h
 ·rename_i b off fs ha hu
  split at h
  ·rename_i fd hfd
   split at h
   ·rename_i ti hi'
    split at h
    ·cases h
    ·rename_i hz
     have hz:¬ ti.size=0:=of_decide_eq_false hz
     refine A0v ho hw hg h fun w0 own σ u a' w hf hr=>?_
     have :=A0n hf (A0d hx hsub hr) ha
     simp only[Rel]at this
     obtain ⟨r,h1,e⟩:=this
     refine ⟨.pointer (some ⟨r,off+fd.offset,none⟩),?_,by simp only[Rel];exact ⟨r,h1,rfl⟩⟩
     simp only[execOp,hop,Instr.fieldAt,Sem.run_bind,run_underlying hu,Result.andThen_ok,hfd,e,Instr.sureAddr,Sem.run_pure,fieldPlace,B0q hi',if_neg hz,G0a]
   ·cases h
  ·cases h
 ·cases h
end
end Go.Ab
namespace Go.Ab
variable {β:Type}
section
variable {P:Program} {N:Nat} {ops:Array Oper} {i:Nat} {tmps:List AV} {heap:Hp} {o:Oper} {rd:Wr} {lo hi:Nat} {K:Wr→Wr→Option β} {res:β}
theorem P1x{t:TypeId}{x ix:Operand}(hop:o.op=.indexAddr t x ix)(ho:ops[i]?=some o)(hw:Want N ops o rd)(hg:Good tmps heap rd)(hsub:∀p∈D0q tmps o,p∈rd)(h:U1x P N tmps o rd t x ix K=some res):Done P N ops i tmps heap lo hi K res:=by
 have hx:x∈o.op.operands:=by simp[hop,Op.operands]
 have hix:ix∈o.op.operands:=by simp[hop,Op.operands]
 unfold U1x at h
 split at h
 ·rename_i b off k n len elem ha hb hu
  split at h
  ·rename_i ti hi'
   split at h
   ·rename_i hd
    have hd:=of_decide_eq_true hd
    refine A0v ho hw hg h fun w0 own σ u a' w hf hr=>?_
    have h1:=A0n hf (A0d hx hsub hr) ha
    have h2:=A0n hf (A0d hix hsub hr) hb
    simp only[Rel]at h1 h2
    obtain ⟨r,hr1,e⟩:=h1
    refine ⟨.pointer (some ⟨r,off+n.toNat*ti.size,none⟩),?_,by simp only[Rel];exact ⟨r,hr1,rfl⟩⟩
    simp only[execOp,hop,Instr.indexAt,h2,asIntOf,Sem.run_bind,run_underlying hu,Result.andThen_ok,e,Instr.sureAddr,Sem.run_pure,Sem.run_ite,if_pos hd,B0q hi',G0a]
   ·cases h
  ·cases h
 ·rename_i b off len cap k n elem ha hb hu
  split at h
  ·rename_i ti hi'
   split at h
   ·rename_i hd
    have hd:=of_decide_eq_true hd
    refine A0v ho hw hg h fun w0 own σ u a' w hf hr=>?_
    have h1:=A0n hf (A0d hx hsub hr) ha
    have h2:=A0n hf (A0d hix hsub hr) hb
    simp only[Rel]at h1 h2
    obtain ⟨r,hr1,e⟩:=h1
    refine ⟨.pointer (some ⟨r,off+n.toNat*ti.size,none⟩),?_,by simp only[Rel];exact ⟨r,hr1,rfl⟩⟩
    simp only[execOp,hop,Instr.indexAt,h2,asIntOf,Sem.run_bind,run_underlying hu,Result.andThen_ok,e,Sem.run_pure,Sem.run_ite,if_pos hd,B0q hi',G0a]
   ·cases h
  ·cases h
 ·cases h
theorem R1z{N:Nat}{w0:World}{own:Nat→Prop}{σ:Nat→Option Nat}{u:U}{a:Act}{w:World}(hf:Fits N w0 own σ u a w){x:Operand}{d top n:Nat}{code:BoundsCode}
  (hr:∀p∈rdOf tmps x,u p.1=some p.2) (h:bdA tmps (some x) d top=some n):(Instr.sliceBound (a.eval x) top code).run P w=.ok n w:=by
 unfold bdA at h
 simp only at h
 split at h
 ·rename_i k m hm
  split at h
  ·rename_i hd
   have hd:=of_decide_eq_true hd
   cases h
   have h1:=A0n hf hr hm
   simp only[Rel]at h1
   simp only[Instr.sliceBound,h1,asIntOf,Sem.run_bind,Sem.run_pure,Result.andThen_ok,Sem.run_ite,if_pos hd]
  ·cases h
 ·cases h
theorem X0m{N:Nat}{w0:World}{own:Nat→Prop}{σ:Nat→Option Nat}{u:U}{a:Act}{w:World}(hf:Fits N w0 own σ u a w){isS:Bool}{len cap h l:Nat}{xl xh:Option Operand}
  (hrl:∀x,xl=some x→∀p∈rdOf tmps x,u p.1=some p.2) (hrh:∀x,xh=some x→∀p∈rdOf tmps x,u p.1=some p.2)
  (hh:bdA tmps xh len cap=some h) (hl:bdA tmps xl 0 h=some l):(Instr.sliceBounds isS len cap (xl.map a.eval) (xh.map a.eval) none).run P w=.ok (l,h,cap) w:=by
 unfold Instr.sliceBounds
 simp only[pure_bind]
 cases xh with
 | none =>
  simp[bdA]at hh
  subst hh
  cases xl with
  | none=>simp[bdA]at hl;subst hl;simp
  | some y =>
   have :=R1z (P:=P) (code:=if (none:Option Value).isSome=true then .slice3C else .sliceB) hf (hrl y rfl) hl
   simp only[Option.map_none,Option.map_some,Sem.run_bind]
   rw[this]
   rfl
 | some z =>
  have hz:=R1z (P:=P) (code:=if isS=true then .sliceAcap else .sliceAlen) hf (hrh z rfl) hh
  simp only[Option.map_some,Sem.run_bind]
  rw[hz]
  simp only[Result.andThen_ok]
  cases xl with
  | none=>simp[bdA]at hl;subst hl;simp
  | some y =>
   have :=R1z (P:=P) (code:=if (none:Option Value).isSome=true then .slice3C else .sliceB) hf (hrl y rfl) hl
   simp only[Option.map_some,Sem.run_bind]
   rw[this]
   rfl
theorem P1y{t:TypeId}{x:Operand}{xl xh xm:Option Operand}(hop:o.op=.slice t x xl xh xm)(ho:ops[i]?=some o)(hw:Want N ops o rd)(hg:Good tmps heap rd)(hsub:∀p∈D0q tmps o,p∈rd)(h:V1c P N tmps o rd t x xl xh xm K=some res):Done P N ops i tmps heap lo hi K res:=by
 have hx:x∈o.op.operands:=by simp[hop,Op.operands]
 have hl':∀y,xl=some y→y∈o.op.operands:=by intro y e;simp[hop,Op.operands,e]
 have hh':∀y,xh=some y→y∈o.op.operands:=by intro y e;simp[hop,Op.operands,e]
 unfold V1c at h
 split at h
 ·rename_i b off n elem ha hu
  split at h
  ·rename_i ti hv hi' hbh
   split at h
   ·rename_i lv hbl
    refine A0v ho hw hg h fun w0 own σ u a' w hf hr=>?_
    have h1:=A0n hf (A0d hx hsub hr) ha
    have hb:=X0m (P:=P) (isS:=false) hf (fun y e=>A0d (hl' y e) hsub hr) (fun y e=>A0d (hh' y e) hsub hr) hbh hbl
    simp only[Rel]at h1
    obtain ⟨r,hr1,e⟩:=h1
    refine ⟨.slice (some ⟨r,(match decide (n=lv) with | true=>off | false=>off+lv*ti.size),none⟩) (hv-lv) (n-lv),?_,by simp only[Rel];exact ⟨r,hr1,rfl⟩⟩
    simp only[execOp,hop,Instr.sliceAt,Sem.run_bind,run_underlying hu,Result.andThen_ok,e,Instr.sureAddr,Sem.run_pure,Option.map_none,hb,B0q hi',G0a]
    by_cases hnl:n=lv
    ·simp[hnl]
    ·simp[hnl]
   ·cases h
  ·cases h
 ·rename_i b off len cap elem ha hu
  split at h
  ·rename_i ti hv hi' hbh
   split at h
   ·rename_i lv hbl
    refine A0v ho hw hg h fun w0 own σ u a' w hf hr=>?_
    have h1:=A0n hf (A0d hx hsub hr) ha
    have hb:=X0m (P:=P) (isS:=true) hf (fun y e=>A0d (hl' y e) hsub hr) (fun y e=>A0d (hh' y e) hsub hr) hbh hbl
    simp only[Rel]at h1
    obtain ⟨r,hr1,e⟩:=h1
    refine ⟨.slice (some ⟨r,(match decide (cap=lv) with | true=>off | false=>off+lv*ti.size),none⟩) (hv-lv) (cap-lv),?_,by simp only[Rel];exact ⟨r,hr1,rfl⟩⟩
    simp only[execOp,hop,Instr.sliceAt,Instr.slice,Sem.run_bind,run_underlying hu,Result.andThen_ok,e,Sem.run_pure,Option.map_none,hb,B0q hi']
    by_cases hnl:cap=lv
    ·simp[hnl]
    ·simp[hnl,G0a]
   ·cases h
  ·cases h
 ·cases h
theorem P0b{P:Program}{t:TypeId}{s:ByteArray}{i:Nat}{k:IntKind}(hu:P.underlying t=some .string)(hi:i<s.size)(w:World):(Instr.index t (.string s) (.int k i)).run P w=.ok (.int .u8 (s.data.toList.getD i 0).toNat) w:=by
 have e:(if 0≤(i:Int) then s[(i:Int).toNat]? else none)=some (s.data.toList.getD i 0):=by
  rw[if_pos (by omega),Int.toNat_natCast,getElem?_pos s i hi]
  congr 1
  have hl:i<s.data.toList.length:=hi
  rw[List.getD_eq_getElem?_getD,List.getElem?_eq_getElem hl]
  rfl
 simp only[Instr.index,asIntOf,Sem.run_bind,Sem.run_pure,Result.andThen_ok,run_underlying hu,e]
theorem V1a{t:TypeId}{x ix:Operand}(hop:o.op=.index t x ix)(ho:ops[i]?=some o)(hw:Want N ops o rd)(hg:Good tmps heap rd)(hsub:∀p∈D0q tmps o,p∈rd)(h:N2q P N tmps o rd t x ix K=some res):Done P N ops i tmps heap lo hi K res:=by
 have hx:x∈o.op.operands:=by simp[hop,Op.operands]
 have hy:ix∈o.op.operands:=by simp[hop,Op.operands]
 unfold N2q at h
 split at h
 ·rename_i s k n ha hb hu
  by_cases hb0:0≤n∧n<(s.size:Int)
  ·rw[decide_eq_true hb0,cond_true]at h
   refine A0v ho hw hg h fun w0 own σ u a' w hf hr=>⟨.int .u8 (s.data.toList.getD n.toNat 0).toNat,?_,by simp only[Rel]⟩
   have h1:=A0n hf (A0d hx hsub hr) ha
   have h2:=A0n hf (A0d hy hsub hr) hb
   simp only[Rel]at h1 h2
   have e:n=((n.toNat:Nat):Int):=by omega
   have hi:n.toNat<s.size:=by omega
   have hrun:=P0b (P:=P) (k:=k) hu hi w
   rw[← e]at hrun
   simp only[execOp,hop,h1,h2,Sem.run_bind,hrun,Result.andThen_ok,Sem.run_pure]
  ·rw[decide_eq_false hb0,cond_false]at h;cases h
 ·exact D0a ho hw hg hsub h
theorem E1d{tmps:List AV}{x:Option Operand}{d top:Nat}{n:Int}(h:bdI tmps x d=some n)(h0:0≤n)(h1:n≤(top:Int)):bdA tmps x d top=some n.toNat:=by
 unfold bdI at h
 unfold bdA
 split at h
 ·cases h;simp
 ·rename_i y
  split at h
  ·cases h
   simp only[h0,h1,and_self,decide_true]
  ·cases h
theorem B2g{t:TypeId}{x:Operand}{xl xh xm:Option Operand}{s:ByteArray}(hop:o.op=.slice t x xl xh xm)(ho:ops[i]?=some o)(hw:Want N ops o rd)(hg:Good tmps heap rd)(hsub:∀p∈D0q tmps o,p∈rd)(ha:opd tmps x=some (.val (.string s)))
  (h:P3b P N tmps o rd t s xl xh xm K=some res):Done P N ops i tmps heap lo hi K res:=by
 have hx:x∈o.op.operands:=by simp[hop,Op.operands]
 have hl':∀y,xl=some y→y∈o.op.operands:=by intro y e;simp[hop,Op.operands,e]
 have hh':∀y,xh=some y→y∈o.op.operands:=by intro y e;simp[hop,Op.operands,e]
 unfold P3b at h
 split at h
 ·rename_i l hv hu hbl hbh
  by_cases hb0:0≤l∧l≤hv∧hv≤(s.size:Int)
  ·rw[decide_eq_true hb0,cond_true]at h
   refine A0v ho hw hg h fun w0 own σ u a' w hf hr=>⟨.string (s.extract l.toNat hv.toNat),?_,by simp only[Rel]⟩
   have h1:=A0n hf (A0d hx hsub hr) ha
   simp only[Rel]at h1
   have e1:=E1d (top:=s.size) hbh (by omega) hb0.2.2
   have e2:=E1d (top:=hv.toNat) hbl hb0.1 (by omega)
   have hb:=X0m (P:=P) (isS:=false) hf (fun y e=>A0d (hl' y e) hsub hr) (fun y e=>A0d (hh' y e) hsub hr) e1 e2
   simp only[execOp,hop,Instr.sliceAt,Instr.slice,Sem.run_bind,run_underlying hu,Result.andThen_ok,h1,Option.map_none,Option.isSome_none,Bool.false_eq_true,if_false,hb,Sem.run_pure]
  ·rw[decide_eq_false hb0,cond_false]at h;cases h
 ·cases h
theorem E1e{σ:Nat→Option Nat}:∀(cs:List AV) (vs:List Value) (ns:List Int),Rels σ cs vs→M1q cs=some ns→vs=ns.map (Value.int .u8)
 | [],vs,ns,h,k=>by
  simp only[M1q,Option.some.injEq]at k
  subst k
  simpa[Rels]using h
 | c :: cs,vs,ns,h,k=>by
  unfold M1q at k
  split at k
  ·rename_i h0;cases h0
  ·rename_i n r h0
   obtain ⟨rfl,rfl⟩:=List.cons.inj h0
   split at k
   ·rename_i l hl
    cases k
    simp only[Rels]at h
    obtain ⟨x,xs,rfl,h1,h2⟩:=h
    simp only[Rel]at h1
    rw[h1,E1e _ xs l h2 hl]
    rfl
   ·cases k
  ·cases k
theorem U1v{src dst:TypeId}{x:Operand}(hop:o.op=.convert src dst x)(ho:ops[i]?=some o)(hw:Want N ops o rd)(hg:Good tmps heap rd)(hsub:∀p∈D0q tmps o,p∈rd)(h:N2k P N tmps heap o rd src dst x K=some res):Done P N ops i tmps heap lo hi K res:=by
 have hx:x∈o.op.operands:=by simp[hop,Op.operands]
 unfold N2k at h
 split at h
 ·rename_i b off len cap e ha hus hud
  split at h
  ·rename_i e' cs hue hh
   split at h
   ·rename_i ns hns
    split at h
    ·rename_i hlen
     have hlen:=Nat.eq_of_beq_eq_true hlen
     refine A0v ho (fun w0 own σ u a w hf hr=>hw w0 own σ u a w hf fun y hy=>hr y (List.mem_cons_of_mem _ hy)) (hg.cons hh) h fun w0 own σ u a' w hf hr=>?_
     have h1:=A0n hf (A0d hx (fun p hp=>List.mem_cons_of_mem _ (hsub p hp)) hr) ha
     simp only[Rel]at h1
     obtain ⟨rr,hr1,e1⟩:=h1
     obtain ⟨r2,vs,hr2,hheap,hrels⟩:=hf.row b e' cs (hr (.blk b,.row e' cs) (List.mem_cons_self ..))
     rw[hr1]at hr2
     cases hr2
     have hv:=E1e _ _ ns ((hrels.drop off).take len) hns
     have hload:=E0a (P:=P) w rr off len e' (0,0) vs _ hheap hv (by simpa using hlen)
     refine ⟨.string (ns.foldl R0j ByteArray.empty),?_,by simp only[Rel]⟩
     simp only[execOp,hop,e1,Sem.run_bind,run_convert_bytes_string w src dst e _ _ _ hus hue hud,run_bytesToString w _ _ _ ns hload,Result.andThen_ok,Sem.run_pure]
     rfl
    ·cases h
   ·cases h
  ·cases h
 ·exact D0a ho hw hg hsub h
theorem B2c{t:TypeId}{x:Operand}(hop:o.op=.sliceToArrayPointer t x)(ho:ops[i]?=some o)(hw:Want N ops o rd)(hg:Good tmps heap rd)(hsub:∀p∈D0q tmps o,p∈rd)(h:N3y P N tmps o rd t x K=some res):Done P N ops i tmps heap lo hi K res:=by
 have hx:x∈o.op.operands:=by simp[hop,Op.operands]
 unfold N3y at h
 split at h
 ·rename_i b off len cap n elem ha hu
  split at h
  ·cases h
  ·rename_i hlt
   refine A0v ho hw hg h fun w0 own σ u a' w hf hr=>?_
   have h1:=A0n hf (A0d hx hsub hr) ha
   simp only[Rel]at h1
   obtain ⟨r,hr1,e⟩:=h1
   have hlt:=of_decide_eq_false hlt
   refine ⟨.pointer (some ⟨r,off,none⟩),?_,by simp only[Rel];exact ⟨r,hr1,rfl⟩⟩
   simp only[execOp,hop,Instr.arrayAt,Sem.run_bind,run_underlying hu,Result.andThen_ok,e,if_neg hlt,Sem.run_pure]
 ·cases h
theorem V1b{c x y:Operand}(hop:o.op=.pick c x y)(ho:ops[i]?=some o)(hw:Want N ops o rd)(hg:Good tmps heap rd)(hsub:∀p∈D0q tmps o,p∈rd)(h:N2r N tmps o rd c x y K=some res):Done P N ops i tmps heap lo hi K res:=by
 have hc:c∈o.op.operands:=by simp[hop,Op.operands]
 have hx:x∈o.op.operands:=by simp[hop,Op.operands]
 have hy:y∈o.op.operands:=by simp[hop,Op.operands]
 unfold N2r at h
 split at h
 ·rename_i t p q hc' hx' hy'
  refine A0v ho hw hg h fun w0 own σ u a' w hf hr=>?_
  have h1:=A0n hf (A0d hc hsub hr) hc'
  have h2:=A0n hf (A0d hx hsub hr) hx'
  have h3:=A0n hf (A0d hy hsub hr) hy'
  simp only[Rel]at h1 h2 h3
  refine ⟨.bool (cond t p q),?_,by simp only[Rel]⟩
  simp only[execOp,hop,h1,h2,h3,asBool,Sem.run_bind,Sem.run_pure,Result.andThen_ok]
  cases t<;>rfl
 ·rename_i t p q _ hc' hx' hy'
  cases t with
  | true =>
   simp only[cond]at h
   refine A0v ho hw hg h fun w0 own σ u a' w hf hr=>?_
   have h1:=A0n hf (A0d hc hsub hr) hc'
   simp only[Rel]at h1
   refine ⟨a'.eval x,?_,A0n hf (A0d hx hsub hr) hx'⟩
   simp only[execOp,hop,h1,asBool,Sem.run_bind,Sem.run_pure,Result.andThen_ok,if_true]
  | false =>
   simp only[cond]at h
   refine A0v ho hw hg h fun w0 own σ u a' w hf hr=>?_
   have h1:=A0n hf (A0d hc hsub hr) hc'
   simp only[Rel]at h1
   refine ⟨a'.eval y,?_,A0n hf (A0d hy hsub hr) hy'⟩
   simp only[execOp,hop,h1,asBool,Sem.run_bind,Sem.run_pure,Result.andThen_ok,Bool.false_eq_true,if_false]
 ·cases h
theorem U1y{t:TypeId}{x:Operand}(hop:o.op=.load t x)(ho:ops[i]?=some o)(hw:Want N ops o rd)(hg:Good tmps heap rd)(hsub:∀p∈D0q tmps o,p∈rd)(h:N2m P N tmps heap o rd t x K=some res):Done P N ops i tmps heap lo hi K res:=by
 have hx:x∈o.op.operands:=by simp[hop,Op.operands]
 unfold N2m at h
 split at h
 ·rename_i b off ha
  split at h
  ·rename_i e cs hh
   split at h
   ·rename_i r hl
    refine A0v ho (fun w0 own σ u a w hf hr=>hw w0 own σ u a w hf fun y hy=>hr y (List.mem_cons_of_mem _ hy)) (hg.cons hh) h fun w0 own σ u a' w hf hr=>?_
    have h1:=A0n hf (A0d hx (fun p hp=>List.mem_cons_of_mem _ (hsub p hp)) hr) ha
    simp only[Rel]at h1
    obtain ⟨rr,hr1,e1⟩:=h1
    obtain ⟨r2,vs,hr2,hheap,hrels⟩:=hf.row b e cs (hr (.blk b,.row e cs) (List.mem_cons_self ..))
    rw[hr1]at hr2
    cases hr2
    obtain ⟨v,hv,hrel⟩:=P1b hl hheap hrels
    refine ⟨v,?_,hrel⟩
    simp only[execOp,hop,Instr.loadAt,e1,Instr.sureAddr,Sem.run_bind,Sem.run_pure,Result.andThen_ok,hv]
   ·cases h
  ·cases h
 ·cases h
theorem P1z{t:TypeId}{x y:Operand}(hop:o.op=.store t x y)(ho:ops[i]?=some o)(hw:Want N ops o rd)(hg:Good tmps heap rd)(hsub:∀p∈D0q tmps o,p∈rd)(h:V1d P tmps heap o rd t x y K=some res):Done P N ops i tmps heap lo hi K res:=by
 have hx:x∈o.op.operands:=by simp[hop,Op.operands]
 have hy:y∈o.op.operands:=by simp[hop,Op.operands]
 unfold V1d at h
 split at h
 ·cases h
 ·rename_i hdst
  split at h
  ·rename_i b off v ha hv
   split at h
   ·rename_i e cs hh
    split at h
    ·rename_i cs' hs
     refine ⟨_,_,h,hg.cons hh,M0m ho (fun w0 own σ u a w hf hr=>hw w0 own σ u a w hf fun y hy=>hr y (List.mem_cons_of_mem _ hy)) fun Q w0 own σ u a w hf hr hn K' hK=>?_⟩
     have hsub':∀p∈D0q tmps o,p∈(Loc.blk b,Con.row e cs) :: rd:=fun p hp=>List.mem_cons_of_mem _ (hsub p hp)
     have h1:=A0n hf (A0d hx hsub' hr) ha
     have h2:=A0n hf (A0d hy hsub' hr) hv
     simp only[Rel]at h1
     obtain ⟨rr,hr1,e1⟩:=h1
     obtain ⟨r2,vs,hr2,hheap,hrels⟩:=hf.row b e cs (hr (.blk b,.row e cs) (List.mem_cons_self ..))
     rw[hr1]at hr2
     cases hr2
     obtain ⟨vs',hrun,hrels'⟩:=B2y hs h2 hheap hrels
     unfold Oper.wp
     simp only[execOp,hop,Instr.storeAt,e1,Instr.sureAddr,Sem.run_bind,Sem.run_pure,Result.andThen_ok,hrun,Oper.upon]
     refine hK σ _ _ (Le.refl σ) (fun _ h _=>h) ?_
     rw[hdst]
     exact hf.setRow hr1 (hr (.blk b,.row e cs) (List.mem_cons_self ..)) hheap hrels'
    ·cases h
   ·cases h
  ·cases h
theorem P1t{e:TypeId}(hop:o.op=.alloc e)(ho:ops[i]?=some o)(hw:Want N ops o rd)(hg:Good tmps heap rd)(h:U1r P N o rd e lo hi K=some res):Done P N ops i tmps heap lo hi K res:=by
 unfold U1r at h
 split at h
 ·rename_i ti hi' hlt
  have hlt:=of_decide_eq_true hlt
  split at h
  ·rename_i z hz
   obtain ⟨rd',wr,h1,rfl,h2⟩:=J0d (P:=P) (lo:=lo) (hi:=hi) ho h hw fun w0 own σ u a w hf hr hn=>by
    obtain ⟨h3,h4⟩:=hf.alloc (hn lo (Nat.le_refl _) hlt) (e:=e) (Rels.vals (σ:=σ) z.cells.toList)
    refine ⟨_,.pointer (some ⟨w.heap.size,0,none⟩),_,?_,h4,?_,h3,?_⟩
    ·simp only[execOp,hop,Instr.alloc,Sem.run_bind,E0j hi' hz,Result.andThen_ok,newVar,newRow,run_newObj,Sem.run_pure,World.alloc_eq,Array.toArray_toList]
    ·intro b hb hb2
     show (if b=lo then _ else σ b)=none
     rw[if_neg (by omega)];exact hb
    ·simp only[Rel];exact ⟨w.heap.size,by simp,rfl⟩
   exact ⟨rd',wr,h1,hg,h2⟩
  ·cases h
 ·cases h
theorem B2e{e:TypeId}{x:Operand}(hop:o.op=.box e x)(ho:ops[i]?=some o)(hw:Want N ops o rd)(hg:Good tmps heap rd)(hsub:∀p∈D0q tmps o,p∈rd)(h:P3a N tmps o rd e x lo hi K=some res):Done P N ops i tmps heap lo hi K res:=by
 have hx:x∈o.op.operands:=by simp[hop,Op.operands]
 unfold P3a at h
 split at h
 ·rename_i v hv hlt
  have hlt:=of_decide_eq_true hlt
  split at h
  ·rename_i cs hcs
   obtain ⟨rd',wr,h1,rfl,h2⟩:=J0d (P:=P) (lo:=lo) (hi:=hi) ho h hw fun w0 own σ u a w hf hr hn=>by
    have hx1:=A0n hf (A0d hx hsub hr) hv
    obtain ⟨h3,h4⟩:=hf.alloc (hn lo (Nat.le_refl _) hlt) (e:=e) (Y0b hx1 hcs)
    refine ⟨_,.pointer (some ⟨w.heap.size,0,none⟩),_,?_,h4,?_,h3,?_⟩
    ·simp only[execOp,hop,Instr.box,Sem.run_bind,Result.andThen_ok,newVar,newRow,run_newObj,Sem.run_pure,World.alloc_eq,Array.toArray_toList]
    ·intro b hb hb2
     show (if b=lo then _ else σ b)=none
     rw[if_neg (by omega)];exact hb
    ·simp only[Rel];exact ⟨w.heap.size,by simp,rfl⟩
   exact ⟨rd',wr,h1,hg,h2⟩
  ·cases h
 ·cases h
theorem T0x{t e:TypeId}(hu:P.underlying t=some (.pointer e))(d:Nat)(ad:Addr)(w:World):(Op.equalIn (d+1) t (.pointer (some ad)) (.pointer none)).run P w=.ok false w:=by
 simp only[Op.equalIn,Sem.run_bind,run_underlying hu,Result.andThen_ok,Sem.run_pure]
theorem Q0h{t e:TypeId}(hu:P.underlying t=some (.pointer e))(ad:Addr)(w:World):(binOp .eql t (.pointer (some ad)) (.pointer none)).run P w=.ok (.bool false) w∧(binOp .neq t (.pointer (some ad)) (.pointer none)).run P w=.ok (.bool true) w:=by
 have h:(Op.equal t (.pointer (some ad)) (.pointer none)).run P w=.ok false w:=T0x hu 9999 ad w
 refine ⟨?_,?_⟩
 ·show ((do pure (.bool (← Op.equal t (.pointer (some ad)) (.pointer none)))):Sem Value).run P w=_
  rw[Sem.run_bind,h];rfl
 ·show ((do pure (.bool (!(← Op.equal t (.pointer (some ad)) (.pointer none))))):Sem Value).run P w=_
  rw[Sem.run_bind,h];rfl
theorem B2d{op:BinOp}{t ty:TypeId}{x y:Operand}(hop:o.op=.binOp op t x y ty)(ho:ops[i]?=some o)(hw:Want N ops o rd)(hg:Good tmps heap rd)(hsub:∀p∈D0q tmps o,p∈rd)(h:N3z P N tmps o rd op t x y K=some res):Done P N ops i tmps heap lo hi K res:=by
 have hx:x∈o.op.operands:=by simp[hop,Op.operands]
 have hy:y∈o.op.operands:=by simp[hop,Op.operands]
 unfold N3z at h
 split at h
 ·rename_i k a k' b ha hb
  have hval:∀w0 own σ u a' w,Fits N w0 own σ u a' w→(∀x∈rd,u x.1=some x.2)→a'.eval x=.int k a∧a'.eval y=.int k' b:=by
   intro w0 own σ u a' w hf hr
   have h1:=A0n hf (A0d hx hsub hr) ha
   have h2:=A0n hf (A0d hy hsub hr) hb
   simp only[Rel]at h1 h2
   exact ⟨h1,h2⟩
  split at h
  ·by_cases hb0:b<0
   ·simp[hb0]at h
   ·simp only[hb0,decide_false,cond_false]at h
    refine A0v ho hw hg h fun w0 own σ u a' w hf hr=>⟨.int k (k.wrap (a*2^min b.toNat k.bits)),?_,by simp only[Rel]⟩
    obtain ⟨h1,h2⟩:=hval w0 own σ u a' w hf hr
    simp only[execOp,hop,h1,h2,eqGuard_at_int,binOp_shl,Op.shift,Sem.run_bind,Sem.run_pure,Result.andThen_ok,if_neg hb0]
  ·by_cases hb0:b<0
   ·simp[hb0]at h
   ·simp only[hb0,decide_false,cond_false]at h
    refine A0v ho hw hg h fun w0 own σ u a' w hf hr=>⟨.int k (a.fdiv (2^min b.toNat k.bits)),?_,by simp only[Rel]⟩
    obtain ⟨h1,h2⟩:=hval w0 own σ u a' w hf hr
    simp only[execOp,hop,h1,h2,eqGuard_at_int,binOp_shr,Op.shift,Sem.run_bind,Sem.run_pure,Result.andThen_ok,if_neg hb0]
  ·split at h
   ·rename_i hk
    have hk:=of_decide_eq_true hk
    subst hk
    by_cases hb0:b=0
    ·simp[hb0]at h
    ·have:(b==0)=false:=by simpa using hb0
     rw[this,cond_false]at h
     refine A0v ho hw hg h fun w0 own σ u a' w hf hr=>⟨.int k (k.wrap (a.tdiv b)),?_,by simp only[Rel]⟩
     obtain ⟨h1,h2⟩:=hval w0 own σ u a' w hf hr
     simp only[execOp,hop,h1,h2,eqGuard_at_int,binOp_quo,Op.intDiv,Sem.run_bind,Sem.run_pure,Result.andThen_ok,if_neg hb0]
   ·cases h
  ·split at h
   ·rename_i hk
    have hk:=of_decide_eq_true hk
    subst hk
    by_cases hb0:b=0
    ·simp[hb0]at h
    ·have:(b==0)=false:=by simpa using hb0
     rw[this,cond_false]at h
     refine A0v ho hw hg h fun w0 own σ u a' w hf hr=>⟨.int k (a.tmod b),?_,by simp only[Rel]⟩
     obtain ⟨h1,h2⟩:=hval w0 own σ u a' w hf hr
     simp only[execOp,hop,h1,h2,eqGuard_at_int,binOp_rem,Op.intDiv,Sem.run_bind,Sem.run_pure,Result.andThen_ok,if_neg hb0]
   ·cases h
  ·exact D0a ho hw hg hsub h
 ·rename_i b off ha hb
  split at h
  ·rename_i e hu
   refine A0v ho hw hg h fun w0 own σ u a' w hf hr=>⟨.bool false,?_,by simp only[Rel]⟩
   have h1:=A0n hf (A0d hx hsub hr) ha
   have h2:=A0n hf (A0d hy hsub hr) hb
   simp only[Rel]at h1 h2
   obtain ⟨r,_,h1⟩:=h1
   simp only[execOp,hop,h1,h2,eqGuard_at_pointer,Sem.run_bind,Sem.run_pure,Result.andThen_ok,(Q0h hu _ w).1]
  ·rename_i e hu
   refine A0v ho hw hg h fun w0 own σ u a' w hf hr=>⟨.bool true,?_,by simp only[Rel]⟩
   have h1:=A0n hf (A0d hx hsub hr) ha
   have h2:=A0n hf (A0d hy hsub hr) hb
   simp only[Rel]at h1 h2
   obtain ⟨r,_,h1⟩:=h1
   simp only[execOp,hop,h1,h2,eqGuard_at_pointer,Sem.run_bind,Sem.run_pure,Result.andThen_ok,(Q0h hu _ w).2]
  ·cases h
 ·rename_i a b ha hb
  split at h
  ·by_cases hb0:((a.size+b.size:Nat):Int)>9223372036854775807
   ·rw[decide_eq_true hb0,cond_true]at h;cases h
   ·rw[decide_eq_false hb0,cond_false]at h
    refine A0v ho hw hg h fun w0 own σ u a' w hf hr=>⟨.string (a++b),?_,by simp only[Rel]⟩
    have h1:=A0n hf (A0d hx hsub hr) ha
    have h2:=A0n hf (A0d hy hsub hr) hb
    simp only[Rel]at h1 h2
    have hrun:=run_string_add_sum (P:=P) (w:=w) a b (by omega)
    have e0:Go.binOp .add t (.string a) (.string b)=Op.stringOp .add a b:=rfl
    simp only[execOp,hop,h1,h2,eqGuard_at_string,e0,Sem.run_bind,Sem.run_pure,Result.andThen_ok,hrun]
  ·exact D0a ho hw hg hsub h
 ·rename_i xs ys ha hb
  split at h
  ·rename_i r hm he
   refine A0v ho hw hg h fun w0 own σ u a' w hf hr=>⟨.bool r,?_,by simp only[Rel]⟩
   have h1:=A0n hf (A0d hx hsub hr) ha
   have h2:=A0n hf (A0d hy hsub hr) hb
   simp only[Rel]at h1 h2
   simp only[execOp,hop,h1,h2,Sem.run_bind,Sem.run_pure,Result.andThen_ok,run_eqGuard_agg w .eql t x y xs ys hm,run_eql_struct,Q0k 100 10000 t _ _ r w (by omega) he]
  ·rename_i r hm he
   refine A0v ho hw hg h fun w0 own σ u a' w hf hr=>⟨.bool (!r),?_,by simp only[Rel]⟩
   have h1:=A0n hf (A0d hx hsub hr) ha
   have h2:=A0n hf (A0d hy hsub hr) hb
   simp only[Rel]at h1 h2
   simp only[execOp,hop,h1,h2,Sem.run_bind,Sem.run_pure,Result.andThen_ok,run_eqGuard_agg w .neq t x y xs ys hm,run_neq_struct,Q0k 100 10000 t _ _ r w (by omega) he]
  ·cases h
 ·exact D0a ho hw hg hsub h
end
end Go.Ab
