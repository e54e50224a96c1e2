/- A part of the proof of 'VecScale': lemmas, no statement of their own; no condition. -/
import Derived.Test.YtgccejhdohpojaaAbC
namespace Go.Ab
variable {β : Type}

/-! ### the operations -/
def addA (off n : Nat) : Nat := off + n

def opVal (P : Program) (N : Nat) (tmps : List AV) (o : Oper) (rd : Wr) (K : Wr → Wr → Option β) : Option β :=
  match noSel o.op && o.op.operands.toList.all (isVal tmps) with
  | true => match evalSem P (execOp (valEnv tmps) o) with
    | some (.value v) => fin N o rd (.val v) [] K
    | _ => none
  | false => none

def opNil (N : Nat) (tmps : List AV) (o : Oper) (rd : Wr) (x : Operand) (K : Wr → Wr → Option β) : Option β :=
  match opd tmps x with
  | some (.ptr b f) => fin N o rd (.ptr b f) [] K
  | some (.func f a c) => fin N o rd (.func f a c) [] K
  | _ => none

def opField (P : Program) (N : Nat) (tmps : List AV) (o : Oper) (rd : Wr) (s : TypeId) (x : Operand) (f : Nat) (K : Wr → Wr → Option β) : Option β :=
  match opd tmps x, P.underlying s with
  | some (.ptr b off), some (.struct fs) => match fs[f]? with
    | some fd => match P.info? fd.type with
      | some i => match decide (i.size = 0) with
        | true => none
        | false => fin N o rd (.ptr b (off + fd.offset)) [] K
      | none => none
    | none => none
  | _, _ => none

def opIndex (P : Program) (N : Nat) (tmps : List AV) (o : Oper) (rd : Wr) (t : TypeId) (x ix : Operand) (K : Wr → Wr → Option β) : Option β :=
  match opd tmps x, opd tmps ix, P.underlying t with
  | some (.ptr b off), some (.val (.int _ n)), some (.array len elem) => match P.info? elem with
    | some i => match decide (0 ≤ n ∧ n < (len : Int)) with
      | true => fin N o rd (.ptr b (off + n.toNat * i.size)) [] K
      | false => none
    | none => none
  | some (.slice b off len _), some (.val (.int _ n)), some (.slice elem) => match P.info? elem with
    | some i => match decide (0 ≤ n ∧ n < (len : Int)) with
      | true => fin N o rd (.ptr b (off + n.toNat * i.size)) [] K
      | false => none
    | none => none
  | _, _, _ => none

def bdA (tmps : List AV) (x : Option Operand) (dflt top : Nat) : Option Nat :=
  match x with
  | none => some dflt
  | some x => match opd tmps x with
    | some (.val (.int _ n)) => match decide (0 ≤ n ∧ n ≤ (top : Int)) with
      | true => some n.toNat
      | false => none
    | _ => none

def opSlice (P : Program) (N : Nat) (tmps : List AV) (o : Oper) (rd : Wr) (t : TypeId) (x : Operand) (lo hi mx : Option Operand) (K : Wr → Wr → Option β) : Option β :=
  match mx, opd tmps x, P.underlying t with
  | none, some (.ptr b off), some (.array n elem) => match P.info? elem, bdA tmps hi n n with
    | some i, some h => match bdA tmps lo 0 h with
      | some l => fin N o rd (.slice b (match decide (n = l) with | true => off | false => off + l * i.size) (h - l) (n - l)) [] K
      | none => none
    | _, _ => none
  | none, some (.slice b off len cap), some (.slice elem) => match P.info? elem, bdA tmps hi len cap with
    | some i, some h => match bdA tmps lo 0 h with
      | some l => fin N o rd (.slice b (match decide (cap = l) with | true => off | false => off + l * i.size) (h - l) (cap - l)) [] K
      | none => none
    | _, _ => none
  | _, _, _ => none

def opPick (N : Nat) (tmps : List AV) (o : Oper) (rd : Wr) (c x y : Operand) (K : Wr → Wr → Option β) : Option β :=
  match opd tmps c, opd tmps x, opd tmps y with
  | some (.val (.bool t)), some (.val (.bool p)), some (.val (.bool q)) => fin N o rd (.val (.bool (cond t p q))) [] K
  | some (.val (.bool t)), some p, some q => cond t (fin N o rd p [] K) (fin N o rd q [] K)
  | _, _, _ => none

def opLoad (P : Program) (N : Nat) (tmps : List AV) (heap : Hp) (o : Oper) (rd : Wr) (t : TypeId) (x : Operand) (K : Wr → Wr → Option β) : Option β :=
  match opd tmps x with
  | some (.ptr b off) => match hget heap b with
    | some (.row e cs) => match loadA P t cs off with
      | some r => fin N o ((.blk b, .row e cs) :: rd) r [] K
      | none => none
    | _ => none
  | _ => none

def opStore (P : Program) (tmps : List AV) (heap : Hp) (o : Oper) (rd : Wr) (t : TypeId) (x y : Operand) (K : Wr → Wr → Option β) : Option β :=
  match o.dst with
  | some _ => none
  | none => match opd tmps x, opd tmps y with
    | some (.ptr b off), some v => match hget heap b with
      | some (.row e cs) => match storeA P t cs off v with
        | some cs' => K ((.blk b, .row e cs) :: rd) [(.blk b, .row e cs')]
        | none => none
      | _ => none
    | _, _ => none

def opAlloc (P : Program) (N : Nat) (o : Oper) (rd : Wr) (elem : TypeId) (lo hi : Nat) (K : Wr → Wr → Option β) : Option β :=
  match P.info? elem, decide (lo < hi) with
  | some i, true => match i.zero with
    | some z => fin N o rd (.ptr lo 0) [(.blk lo, .row elem (z.cells.toList.map .val))] K
    | none => none
  | _, _ => none

def opBox (N : Nat) (tmps : List AV) (o : Oper) (rd : Wr) (elem : TypeId) (x : Operand) (lo hi : Nat) (K : Wr → Wr → Option β) : Option β :=
  match opd tmps x, decide (lo < hi) with
  | some v, true => match cellsOf v with
    | some cs => fin N o rd (.ptr lo 0) [(.blk lo, .row elem cs)] K
    | none => none
  | _, _ => none

def sliceCells (P : Program) (t : TypeId) (len : Nat) (parts : List (Nat × Value)) : Option (TypeId × List Value) :=
  match P.underlying t with
  | some (.slice elem) => match P.info? elem with
    | some i => match decide (len * i.size > 2 ^ 24), decide (len * i.size = 0), i.zero with
      | false, false, some z => match Instr.fill (fun j => some (j * i.size, i.size)) ((Array.range (len * i.size)).map (z.cells[· % z.cells.size]!)) parts with
        | some cells => some (elem, cells.toList)
        | none => none
      | _, _, _ => none
    | none => none
  | _ => none

def opBuildSlice (P : Program) (N : Nat) (tmps : List AV) (o : Oper) (rd : Wr) (t : TypeId) (len : Nat) (parts : Array (Nat × Operand)) (lo hi : Nat) (K : Wr → Wr → Option β) : Option β :=
  match (parts.toList.map (·.2)).all (isVal tmps), decide (lo < hi) with
  | true, true => match sliceCells P t len (parts.toList.map fun p => (p.1, valEnv tmps p.2)) with
    | some (elem, cells) => fin N o rd (.slice lo 0 len len) [(.blk lo, .row elem (cells.map .val))] K
    | none => none
  | _, _ => none

def opdL (tmps : List AV) : List Operand → Option (List AV)
  | [] => some []
  | x :: r => match opd tmps x, opdL tmps r with
    | some a, some l => some (a :: l)
    | _, _ => none

def opMakeFunc (N : Nat) (tmps : List AV) (o : Oper) (rd : Wr) (fn : Fn) (first captured : Array Operand) (K : Wr → Wr → Option β) : Option β :=
  match fn, opdL tmps first.toList, opdL tmps captured.toList with
  | .func f, some a, some b => fin N o rd (.func f a b) [] K
  | _, _, _ => none

def opExtract (P : Program) (N : Nat) (tmps : List AV) (o : Oper) (rd : Wr) (x : Operand) (ix : Nat) (K : Wr → Wr → Option β) : Option β :=
  match opd tmps x with
  | some (.tuple vs) => match vs[ix]? with
    | some a => fin N o rd a [] K
    | none => none
  | _ => opVal P N tmps o rd K

/-- Shifts, quotients and what is left: the count, or the divisor, may be open; a pointer against nil. -/
def opBin (P : Program) (N : Nat) (tmps : List AV) (o : Oper) (rd : Wr) (op : BinOp) (t : TypeId) (x y : Operand) (K : Wr → Wr → Option β) : Option β :=
  match opd tmps x, opd tmps y with
  | some (.val (.int k a)), some (.val (.int k' b)) => match op with
    | .shl => cond (decide (b < 0)) none (fin N o rd (.val (.int k (k.wrap (a * 2 ^ min b.toNat k.bits)))) [] K)
    | .shr => cond (decide (b < 0)) none (fin N o rd (.val (.int k (a.fdiv (2 ^ min b.toNat k.bits)))) [] K)
    | .quo => match decide (k = k') with
      | true => cond (b == 0) none (fin N o rd (.val (.int k (k.wrap (a.tdiv b)))) [] K)
      | false => none
    | .rem => match decide (k = k') with
      | true => cond (b == 0) none (fin N o rd (.val (.int k (a.tmod b))) [] K)
      | false => none
    | _ => opVal P N tmps o rd K
  | some (.ptr _ _), some (.val (.pointer none)) => match op, P.underlying t with
    | .eql, some (.pointer _) => fin N o rd (.val (.bool false)) [] K
    | .neq, some (.pointer _) => fin N o rd (.val (.bool true)) [] K
    | _, _ => none
  | some (.val (.agg xs)), some (.val (.agg ys)) => match op, P.eqGuardType P.depth t, eqT P 100 t (.agg xs) (.agg ys) with
    | .eql, false, some r => fin N o rd (.val (.bool r)) [] K
    | .neq, false, some r => fin N o rd (.val (.bool (!r))) [] K
    | _, _, _ => none
  | _, _ => opVal P N tmps o rd K

def opMove (N : Nat) (tmps : List AV) (o : Oper) (rd : Wr) (x : Operand) (K : Wr → Wr → Option β) : Option β :=
  match opd tmps x with
  | some a => fin N o rd a [] K
  | none => none

/-- Maps without addresses. -/
def lookA (P : Program) (t : TypeId) (es : Array MapEntry) (key : Value) (ok : Bool) : Option Value :=
  match P.underlying t with
  | some (.map kt et) => match evalSem P (Instr.checkKey es.isEmpty 10000 kt key), evalSem P (Instr.findKey kt key es.toList), (P.info? et).bind (·.zero) with
    | some (), some (some (_, v)), _ => some (match ok with | true => .tuple #[v, .bool true] | false => v)
    | some (), some none, some z => some (match ok with | true => .tuple #[z, .bool false] | false => z)
    | _, _, _ => none
  | _ => none
def putA (P : Program) (t : TypeId) (es : Array MapEntry) (clock : Nat) (key val : Value) : Option (Array MapEntry × Nat) :=
  match P.underlying t with
  | some (.map kt _) => match evalSem P (Instr.checkKey false 10000 kt key), evalSem P (Instr.findKey kt key es.toList) with
    | some (), some (some (i, _)) => match evalSem P (Instr.keyThatStays (((es[i]?).map (·.key)).getD key) key) with
      | some key' => some (es.modify i fun e => { e with key := key', val }, clock)
      | none => none
    | some (), some none => some (es.push { key, val, born := clock }, clock + 1)
    | _, _ => none
  | _ => none

def opMakeMap (N : Nat) (o : Oper) (rd : Wr) (r : Option Operand) (lo hi : Nat) (K : Wr → Wr → Option β) : Option β :=
  match r, decide (lo < hi) with
  | none, true => fin N o rd (.map lo) [(.blk lo, .obj (.map #[] 0))] K
  | _, _ => none

def opPut (P : Program) (tmps : List AV) (heap : Hp) (o : Oper) (rd : Wr) (t : TypeId) (m x y : Operand) (K : Wr → Wr → Option β) : Option β :=
  match o.dst with
  | some _ => none
  | none => match opd tmps m, opd tmps x, opd tmps y with
    | some (.map b), some (.val k), some (.val v) => match hget heap b with
      | some (.obj (.map es c)) => match putA P t es c k v with
        | some (es', c') => K ((.blk b, .obj (.map es c)) :: rd) [(.blk b, .obj (.map es' c'))]
        | none => none
      | _ => none
    | _, _, _ => none

def opLook (P : Program) (N : Nat) (tmps : List AV) (heap : Hp) (o : Oper) (rd : Wr) (t : TypeId) (m x : Operand) (ok : Bool) (K : Wr → Wr → Option β) : Option β :=
  match opd tmps m, opd tmps x with
  | some (.map b), some (.val k) => match hget heap b with
    | some (.obj (.map es c)) => match lookA P t es k ok with
      | some v => fin N o ((.blk b, .obj (.map es c)) :: rd) (.val v) [] K
      | none => none
    | _ => none
  | _, _ => none

def hpRd (H : Hp) : Wr := H.map fun p => (.blk p.1, p.2)

def opCall (P : Program) (call : CallR β) (N : Nat) (tmps : List AV) (heap : Hp) (o : Oper) (rd : Wr) (c : Call) (lo hi : Nat) (K : Wr → Wr → Option β) : Option β :=
  match c.callee with
  | .value f => match opd tmps f, opdL tmps c.args.toList with
    | some (.func fid first cap), some args => match P.funcs[fid]? with
      | some fn => match fn.body.isSome && !(fn.name == "runtime.NumGoroutine") with
        | true =>
          let all := (first ++ args) ++ cap
          let H := subheap heap (reach 1000 heap (namesL all) [])
          match noAv H with
          | true => call fid all H lo hi fun r H' => match covers H' H with
            | true => fin N o (hpRd H ++ rd) r (hpWr H') K
            | false => none
          | false => none
        | false => none
      | none => none
    | _, _ => none
  | .builtin .len => match c.args.toList, c.argTypes.toList with
    | [x], t :: _ => match opd tmps x with
      | some (.slice _ _ len _) => match P.underlying t with
        | some (.slice _) => fin N o rd (.val (.int .i64 len)) [] K
        | _ => none
      | _ => opVal P N tmps o rd K
    | _, _ => none
  | .builtin _ => opVal P N tmps o rd K
  | .invoke .. => none

def opBody (P : Program) (call : CallR β) (N : Nat) (tmps : List AV) (heap : Hp) (o : Oper) (rd0 : Wr) (lo hi : Nat) (K : Wr → Wr → Option β) : Option β :=
  let rd := rd0 ++ rdAll tmps o
  match o.op with
  | .move x | .assign x => opMove N tmps o rd x K
  | .pick c x y => opPick N tmps o rd c x y K
  | .nilCheck x => opNil N tmps o rd x K
  | .fieldAddr s x f => opField P N tmps o rd s x f K
  | .indexAddr t x ix => opIndex P N tmps o rd t x ix K
  | .slice t x l h m => match opd tmps x with
    | some (.val _) => opVal P N tmps o rd K
    | _ => opSlice P N tmps o rd t x l h m K
  | .load t x => opLoad P N tmps heap o rd t x K
  | .store t x y => opStore P tmps heap o rd t x y K
  | .alloc e => opAlloc P N o rd e lo hi K
  | .box e x => opBox N tmps o rd e x lo hi K
  | .buildSlice t len parts => opBuildSlice P N tmps o rd t len parts lo hi K
  | .makeFunc fn a b => opMakeFunc N tmps o rd fn a b K
  | .extract x ix => opExtract P N tmps o rd x ix K
  | .call c => opCall P call N tmps heap o rd c lo hi K
  | .binOp op t x y _ => opBin P N tmps o rd op t x y K
  | .makeMap _ r => opMakeMap N o rd r lo hi K
  | .mapUpdate t m x y | .insert t m x y => opPut P tmps heap o rd t m x y K
  | .lookup t m x ok => opLook P N tmps heap o rd t m x ok K
  | .unOp .. | .convert .. | .build .. | .field .. | .index .. | .makeInterface .. => opVal P N tmps o rd K
  | _ => none

/-- Behind a test what was tested is known. -/
def conc (tmps : List AV) (c : Operand) (b : Bool) : List AV :=
  match c with
  | .tmp t => tmps.set t (.val (.bool b))
  | _ => tmps

/-- What the operation's guard says. -/
def opRun (P : Program) (call : CallR β) (N : Nat) (ops : Array Oper) (tmps : List AV) (heap : Hp) (o : Oper) (lo hi : Nat) (K : List AV → Wr → Wr → Option β) : Option β :=
  match o.guard with
  | none => opBody P call N tmps heap o [] lo hi (K tmps)
  | some (g, want) => match (ops[g]?).bind (·.dst) with
    | none => none
    | some t => match tmps[t]? with
      | some (.val (.bool b)) => match want with
        | true => cond b (opBody P call N (conc tmps (.tmp t) true) heap o [(.tmp t, .av (.val (.bool true)))] lo hi (K (conc tmps (.tmp t) true))) (fin N o [(.tmp t, .av (.val (.bool false)))] (.val undef) [] (K (conc tmps (.tmp t) false)))
        | false => cond b (fin N o [(.tmp t, .av (.val (.bool true)))] (.val undef) [] (K (conc tmps (.tmp t) true))) (opBody P call N (conc tmps (.tmp t) false) heap o [(.tmp t, .av (.val (.bool false)))] lo hi (K (conc tmps (.tmp t) false)))
      | some (.val (.tuple vs)) => fin N o [(.tmp t, .av (.val (.tuple vs)))] (.val undef) [] (K tmps)
      | _ => none

end Go.Ab
