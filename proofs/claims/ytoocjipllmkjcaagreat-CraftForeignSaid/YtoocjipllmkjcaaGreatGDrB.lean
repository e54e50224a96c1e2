/- A part of the proofs: lemmas, no statement of their own; no condition. -/
import Derived.Test.YtoocjipllmkjcaaGreatGFrK
import Derived.Test.YtoocjipllmkjcaaGreatGFuB
import Derived.Lib.Bytealg
namespace Go.Ab
open Go
structure Sp where
  i : Nat
  d : Nat
  on : Bool
  reads : List (Nat × Value)
  val : Value
  tok : Option (Nat × Nat)
def Sp.tokR (s : Sp) : Wr:=match s.tok with | none=>[] | some (n,_)=>[(.blk 0,.row n [])]
def Sp.tokW (s : Sp) : Wr:=match s.tok with | none=>[] | some (n,m)=>match Nat.beq n m with | true=>[] | false=>[(.blk 0,.row m [])]
def Sp.it (s : Sp) : It:=⟨s.i,s.reads.map (fun p=>(.tmp p.1,.av (.val p.2))) ++ s.tokR,(.tmp s.d,.av (.val s.val)) :: s.tokW,0,0⟩
def Reads (s : Sp) (a : Act) : Prop:=∀ p ∈ s.reads,a.tmps[p.1]? = some p.2
structure SpOk (P : Program) (ops : Array Oper) (W : Nat→World) (N : Nat) (s : Sp) : Prop where
  lt : s.d < N
  op : ∃ o,ops[s.i]? = some o ∧ o.dst = some s.d ∧ (∀ a : Act,Reads s a→Region.wanted o (yielded ops a.tmps) = s.on) ∧
    (s.on = false→s.val = undef ∧ s.tok = none) ∧
    (s.on = true→match s.tok with
      | none=>∀ (a : Act) (w : World),Reads s a→(execOp a.eval o).run P w = .ok (.value s.val) w
      | some (n,m)=>∀ a : Act,Reads s a→(execOp a.eval o).run P (W n) = .ok (.value s.val) (W m))
def TokR (W : Nat→World) (N : Nat) (u : U) (a : Act) (w : World) : Prop :=
  a.defers = [] ∧ a.tmps.size = N ∧ (∀ t v,u (.tmp t) = some (.av (.val v))→a.tmps[t]? = some v) ∧ ∃ n,u (.blk 0) = some (.row n []) ∧ w = W n
theorem sp_ex {P : Program} {ops : Array Oper} {W : Nat→World} {N : Nat} {Q : Exit→Act→World→Prop} {s : Sp} (h : SpOk P ops W N s) : ExR P ops (TokR W N) Q s.it:=by
  intro u a w hR hrd K hK
  obtain ⟨hlt,o,ho,hdst,hwant,hoff,hon⟩:=h
  obtain ⟨r1,r2,r3,n0,r4,rfl⟩:=hR
  have hreads : Reads s a:=by
    intro p hp
    refine r3 p.1 p.2 (hrd (.tmp p.1,.av (.val p.2)) ?_)
    unfold Sp.it
    simp only [List.mem_append,List.mem_map]
    exact .inl ⟨p,hp,rfl⟩
  have put : ∀ m,(s.tok = none ∧ m = n0 ∨ ∃ n,s.tok = some (n,m) ∧ n = n0)→TokR W N (upd u s.it.wr) (a.put (some s.d) s.val) (W m):=by
    intro m hm
    refine ⟨r1,by simp [Act.put,r2],fun t v ht=>?_,m,?_,rfl⟩
    · have e : upd u s.it.wr (.tmp t) = if t = s.d then some (.av (.val s.val)) else u (.tmp t):=by
        unfold Sp.it Sp.tokW
        rcases hm with ⟨h1,_⟩ | ⟨n,h1,_⟩
        · rw [h1]
          simp only [upd,upd1]
          by_cases e : t = s.d
          · simp [e]
          · simp [e]
        · rw [h1]
          dsimp only
          split
          · simp only [upd,upd1]
            by_cases e : t = s.d
            · simp [e]
            · simp [e]
          · simp only [upd,upd1]
            by_cases e : t = s.d
            · simp [e]
            · simp [e]
      rw [e] at ht
      by_cases e2 : t = s.d
      · rw [if_pos e2] at ht
        cases ht
        subst e2
        simp [Act.put,r2,hlt]
      · rw [if_neg e2] at ht
        have:=r3 t v ht
        simp [Act.put,Ne.symm e2,this]
    · unfold Sp.it Sp.tokW
      rcases hm with ⟨h1,rfl⟩ | ⟨n,h1,rfl⟩
      · rw [h1]
        simp only [upd,upd1]
        simp [r4]
      · rw [h1]
        dsimp only
        split
        · rename_i e
          have:=Nat.eq_of_beq_eq_true e
          subst this
          simp only [upd,upd1]
          simp [r4]
        · simp only [upd,upd1]
          simp
  unfold wpOp
  show match ops[s.i]? with | none=>_ | some o=>_
  rw [ho]
  simp only
  cases hs : s.on with
  | false =>
    rw [if_neg (by rw [hwant a hreads,hs]; decide),hdst]
    obtain ⟨e1,e2⟩:=hoff hs
    have:=put n0 (.inl ⟨e2,rfl⟩)
    rw [e1] at this
    exact hK _ _ this
  | true =>
    rw [if_pos (by rw [hwant a hreads,hs])]
    refine .inl ?_
    have hon:=hon hs
    unfold Oper.wp
    cases ht : s.tok with
    | none =>
      rw [ht] at hon
      rw [hon a _ hreads,Oper.upon_value,hdst]
      exact hK _ _ (put n0 (.inl ⟨ht,rfl⟩))
    | some p =>
      obtain ⟨n,m⟩:=p
      rw [ht] at hon
      have hn : n = n0:=by
        have:=hrd (.blk 0,.row n []) (by unfold Sp.it Sp.tokR; rw [ht]; simp)
        simp only at this
        rw [r4] at this
        cases this
        rfl
      subst hn
      rw [hon a hreads,Oper.upon_value,hdst]
      exact hK _ _ (put m (.inr ⟨n,ht,rfl⟩))
def ChOk : List Sp→(Nat→Option Value)→Nat→Nat→Prop
  | [],_,n,e=>n = e
  | s :: r,f,n,e=>(∀ p ∈ s.reads,f p.1 = some p.2) ∧ (match s.tok with
      | none=>ChOk r (fun t=>if t = s.d then some s.val else f t) n e
      | some (m,m')=>m = n ∧ ChOk r (fun t=>if t = s.d then some s.val else f t) m' e)
def uOf (f : Nat→Option Value) (n : Nat) : U:=fun
  | .tmp t=>(f t).map fun v=>.av (.val v)
  | .blk 0=>some (.row n [])
  | .blk _=>none
theorem upd_uOf {s : Sp} {f : Nat→Option Value} {n m : Nat} (h : s.tok = none ∧ m = n ∨ ∃ k,s.tok = some (k,m) ∧ k = n) : upd (uOf f n) s.it.wr = uOf (fun t=>if t = s.d then some s.val else f t) m:=by
  funext l
  unfold Sp.it Sp.tokW
  rcases h with ⟨h1,rfl⟩ | ⟨k,h1,rfl⟩
  · rw [h1]
    simp only [upd,upd1]
    cases l with
    | tmp t=>by_cases e : t = s.d <;> simp [uOf,e]
    | blk b=>cases b <;> simp [uOf]
  · rw [h1]
    dsimp only
    split
    · rename_i e
      have:=Nat.eq_of_beq_eq_true e
      subst this
      simp only [upd,upd1]
      cases l with
      | tmp t=>by_cases e : t = s.d <;> simp [uOf,e]
      | blk b=>cases b <;> simp [uOf]
    · simp only [upd,upd1]
      cases l with
      | tmp t=>by_cases e : t = s.d <;> simp [uOf,e]
      | blk b=>cases b <;> simp [uOf]
theorem chain_of {P : Program} {ops : Array Oper} {W : Nat→World} {N : Nat} {Q : Exit→Act→World→Prop} : ∀ (sps : List Sp) (f : Nat→Option Value) (n e : Nat),(∀ s ∈ sps,SpOk P ops W N s)→ChOk sps f n e →
    ChainR (ExR P ops (TokR W N) Q) (sps.map Sp.it) (uOf f n) (uOf (sps.foldl (fun f s=>fun t=>if t = s.d then some s.val else f t) f) e)
  | [],f,n,e,_,h=>by
    simp only [ChOk] at h
    subst h
    rfl
  | s :: r,f,n,e,hok,h=>by
    obtain ⟨h1,h2⟩:=h
    have hs:=sp_ex (Q:=Q) (hok s (List.mem_cons_self ..))
    have hread : (∀ p ∈ s.tokR,uOf f n p.1 = some p.2)→∀ x ∈ s.it.rd,uOf f n x.1 = some x.2:=by
      intro htok x hx
      unfold Sp.it at hx
      simp only [List.mem_append,List.mem_map] at hx
      rcases hx with ⟨p,hp,rfl⟩ | hx
      · simp [uOf,h1 p hp]
      · exact htok x hx
    refine ⟨hread fun p hp=>?_,hs,?_⟩
    · unfold Sp.tokR at hp
      cases ht : s.tok with
      | none=>rw [ht] at hp; cases hp
      | some q =>
        obtain ⟨a,b⟩:=q
        rw [ht] at hp h2
        simp only [List.mem_singleton] at hp
        subst hp
        rw [h2.1]
        rfl
    · simp only [List.foldl_cons]
      cases ht : s.tok with
      | none =>
        rw [ht] at h2
        rw [upd_uOf (m:=n) (.inl ⟨ht,rfl⟩)]
        exact chain_of r _ n e (fun x hx=>hok x (List.mem_cons_of_mem _ hx)) h2
      | some q =>
        obtain ⟨a,b⟩:=q
        rw [ht] at h2
        rw [upd_uOf (m:=b) (.inr ⟨a,ht,h2.1⟩)]
        exact chain_of r _ b e (fun x hx=>hok x (List.mem_cons_of_mem _ hx)) h2.2
theorem foldl_put : ∀ (sps : List Sp) (a : Act) (N : Nat),a.tmps.size = N→(∀ s ∈ sps,s.d < N) →
    (sps.foldl (fun a s=>a.put (some s.d) s.val) a).tmps.size = N ∧ (sps.foldl (fun a s=>a.put (some s.d) s.val) a).defers = a.defers ∧
    ∀ t,(sps.foldl (fun a s=>a.put (some s.d) s.val) a).tmps[t]? = (sps.foldl (fun (f : Nat→Option Value) s=>fun t=>if t = s.d then some s.val else f t) (fun t=>a.tmps[t]?)) t
  | [],a,N,h,_=>⟨h,rfl,fun _=>rfl⟩
  | s :: r,a,N,h,hd=>by
    obtain ⟨h1,h2,h3⟩:=foldl_put r (a.put (some s.d) s.val) N (by simp [Act.put,h]) fun x hx=>hd x (List.mem_cons_of_mem _ hx)
    refine ⟨h1,h2,fun t=>?_⟩
    rw [List.foldl_cons,List.foldl_cons,h3 t]
    have e : (fun t=>(a.put (some s.d) s.val).tmps[t]?) = fun t=>if t = s.d then some s.val else a.tmps[t]?:=by
      funext t
      have hlt:=hd s (List.mem_cons_self ..)
      by_cases e : t = s.d
      · subst e; simp [Act.put,h,hlt]
      · simp [Act.put,Ne.symm e,e]
    rw [e]
theorem draw_vals {P : Program} {ops : Array Oper} {W : Nat→World} {N id e : Nat} {Q : Exit→Act→World→Prop} {a : Act} {w : World} {sps : List Sp} (hm : P.follows .mixedOrders = true) (hlen : sps.length = ops.size) (hix : ∀ (k : Nat) (s : Sp),sps[k]? = some s→s.i = k)
    (hok : anyOk ops.toList (sps.map fun s=>s.it.foot) = true) (hsp : ∀ s ∈ sps,SpOk P ops W N s) (hd : a.defers = []) (hs : a.tmps.size = N) (hW : W 0 = { w with drawn:=w.drawn + 1 }) (hch : ChOk sps (fun t=>a.tmps[t]?) 0 e)
    (hQ : Q .normal (sps.foldl (fun a s=>a.put (some s.d) s.val) a) (W e)) : (Code.region id ops true).wp P Q a w:=by
  refine wp_region_any hm ?_
  have hc:=chain_of (Q:=Q) sps _ 0 e hsp hch
  refine wpAny_of_chainR (R:=TokR W N) (items:=sps.map Sp.it) (by simpa using hlen) (fun k it hk=>?_) (by simpa [List.map_map,Function.comp_def] using hok) hc ?_ ?_
  · rw [List.getElem?_map] at hk
    cases hks : sps[k]? with
    | none=>rw [hks] at hk; cases hk
    | some s =>
      rw [hks] at hk
      cases hk
      exact hix k s hks
  · refine ⟨hd,hs,fun t v ht=>?_,0,rfl,hW.symm⟩
    have ht : (a.tmps[t]?).map (fun v=>Con.av (.val v)) = some (.av (.val v)):=ht
    cases h : a.tmps[t]? with
    | none=>rw [h] at ht; cases ht
    | some x =>
      rw [h] at ht
      simp only [Option.map_some,Option.some.injEq,Con.av.injEq,AV.val.injEq] at ht
      rw [ht]
  · intro a' w' hR
    obtain ⟨h1,h2,h3,n,h4,rfl⟩:=hR
    obtain ⟨f1,f2,f3⟩:=foldl_put sps a N hs fun s hs=>(hsp s hs).lt
    have hn : n = e:=by
      simp only [uOf,Option.some.injEq,Con.row.injEq] at h4
      exact h4.1.symm
    have ha : a' = sps.foldl (fun a s=>a.put (some s.d) s.val) a:=by
      have ht : a'.tmps = (sps.foldl (fun a s=>a.put (some s.d) s.val) a).tmps:=by
        apply Array.ext
        · rw [h2,f1]
        · intro i hi1 hi2
          have hx:=f3 i
          rw [Array.getElem?_eq_getElem hi2] at hx
          have:=h3 i _ (show (List.foldl (fun (f : Nat→Option Value) (s : Sp)=>fun t=>if t = s.d then some s.val else f t) (fun t=>a.tmps[t]?) sps i).map (fun v=>Con.av (.val v)) = _ by rw [← hx]; rfl)
          rw [Array.getElem?_eq_getElem hi1] at this
          exact Option.some.inj this
      have hdf : a'.defers = (sps.foldl (fun a s=>a.put (some s.d) s.val) a).defers:=by rw [h1,f2,hd]
      cases a'
      cases hb : sps.foldl (fun a s=>a.put (some s.d) s.val) a
      rw [hb] at ht hdf
      simp only at ht hdf
      rw [ht,hdf]
    rw [ha,hn]
    exact hQ
end Go.Ab
namespace Go.Ab
open Go Go.Proofs
noncomputable def sC : Code:=Tryz.f162.body.getD .skip
noncomputable def sc0 : Code:=seqL sC
noncomputable def sc1 : Code:=seqL (seqR sC)
noncomputable def sc2 : Code:=seqL (seqR (seqR sC))
noncomputable def sB : Code:=inB (inB (inB (seqR (seqR (seqR sC)))))
noncomputable def sc3 : Code:=seqL sB
noncomputable def sc4 : Code:=seqL (seqR sB)
noncomputable def sc6 : Code:=seqL (seqR (seqR sB))
noncomputable def sT7 : Code:=seqR (seqR (seqR sB))
noncomputable def sc7 : Code:=seqL sT7
noncomputable def sc9 : Code:=seqL (seqR sT7)
noncomputable def sc10 : Code:=seqL (seqR (seqR sT7))
noncomputable def sc12 : Code:=seqL (seqR (seqR (seqR sT7)))
noncomputable def sX : Code:=seqR (seqR (seqR (seqR sT7)))
noncomputable def sc13 : Code:=seqL sX
noncomputable def sO14 : Array Oper:=regO (ifT (seqR sX))
noncomputable def sc15 : Code:=ifE (seqR sX)
theorem sC_is : Tryz.f162.body = some (.seq sc0 (.seq sc1 (.seq sc2 (.block 0 (.loop (.block 1 sB)))))):=by kernel_rfl
theorem sB_is : sB = .seq sc3 (.seq sc4 (.seq sc6 (.seq sc7 (.seq sc9 (.seq sc10 (.seq sc12 (.seq sc13 (.cond (.tmp 57) (.region 14 sO14 true) sc15)))))))):=by kernel_rfl
def sS (s : ByteArray) (a : Option Addr) (n c : Nat) (o : Int) (l : List (Nat × Value)) : St:=mkSt 69 ([0,5,6] ++ l.map (·.1)) ([.string s,.slice a n c,.int .i64 o] ++ l.map (·.2)) [] [] [] 4096 frH frT
abbrev ScG:=ByteArray × N8 × Unit→Int
abbrev OpG:=ByteArray × Unit→Two Fr Bool
def scGam (ix : ScG) (po : ByteArray × Unit→Bool) (op : OpG) : Gam:=[(207,S0w (fun _=>true) ix),(208,S0w po op)]
section
variable (ix : ScG) (po : ByteArray × Unit→Bool) (op : OpG) (s : ByteArray) (a : Option Addr) (n c : Nat) (o i : Int)
theorem sr0 : frRun (scGam ix po op) 69 sc0 ⟨[Value.string s].map .val ++ List.replicate (69 - [Value.string s].length) (.val undef),[],4096,frH,frT,[]⟩ [] [0] = some (.normal,mkSt 69 [0] [.string s] [] [] [] 4096 frH frT):=by kernel_rfl
theorem sr1 : frRun (scGam ix po op) 69 sc1 (mkSt 69 [0] [.string s] [] [] [] 4096 frH frT) [] [0,5] = some (.normal,mkSt 69 [0,5] [.string s,.slice none 0 0] [] [] [] 4096 frH frT):=by kernel_rfl
theorem sr2 : frRun (scGam ix po op) 69 sc2 (mkSt 69 [0,5] [.string s,.slice none 0 0] [] [] [] 4096 frH frT) [] [0,5,6] = some (.normal,sS s none 0 0 0 []):=by kernel_rfl
theorem sr3 : frRun (scGam ix po op) 69 sc3 (sS s a n c o []) [] [0,5,6,7] = some (.normal,sS s a n c o [(7,.int .i64 (ix (s,⟨165⟩,())))]):=by kernel_rfl
theorem sr4 : frRun (scGam ix po op) 69 sc4 (sS s a n c o [(7,.int .i64 i)]) [] [0,2,3,4,5,6,7] = bif decide (i < 0) then some (.ret,mkSt 69 [0,5,6,7,2,3,4] [.string s,.slice a n c,.int .i64 o,.int .i64 i,.slice a n c,.string ⟨#[]⟩,.int .i64 (IntKind.i64.wrap (o + s.size))] [] [] [] 4096 frH frT) else some (.normal,{ sS s a n c o [(7,.int .i64 i)] with tmps:=(sS s a n c o [(7,.int .i64 i)]).tmps }):=by kernel_rfl
theorem sr6 : frRun (scGam ix po op) 69 sc6 (sS s a n c o [(7,.int .i64 i)]) [] [0,5,6] = bif decide (0 ≤ i ∧ i ≤ (s.size : Int) ∧ (s.size : Int) ≤ (s.size : Int)) then some (.normal,sS (s.extract i.toNat ((s.size : Nat) : Int).toNat) a n c (IntKind.i64.wrap (o + i)) []) else none:=by kernel_rfl
theorem sr7 : frRun (scGam ix po op) 69 sc7 (sS s a n c o []) [] [0,2,3,4,5,6] = bif decide ((s.size : Int) < 3) then some (.ret,mkSt 69 [0,5,6,2,3,4] [.string s,.slice a n c,.int .i64 o,.slice a n c,.string s,.int .i64 o] [] [] [] 4096 frH frT) else some (.normal,{ sS s a n c o [] with tmps:=(sS s a n c o []).tmps }):=by kernel_rfl
theorem sr9 : frRun (scGam ix po op) 69 sc9 (sS s a n c o []) [] [0,5,6,8] = bif decide (0 ≤ (2 : Int) ∧ 2 < (s.size : Int)) then some (.normal,sS s a n c o [(8,.int .i64 (IntKind.i64.wrap (IntKind.i64.wrap (byteI s 2) + 5)))]) else none:=by kernel_rfl
def sRet8 (m : Int) : Option (Ex × St):=some (.ret,mkSt 69 [0,5,6,8,2,3,4] [.string s,.slice a n c,.int .i64 o,.int .i64 m,.slice a n c,.string s,.int .i64 o] [] [] [] 4096 frH frT)
theorem sr10 (m : Int) : frRun (scGam ix po op) 69 sc10 (sS s a n c o [(8,.int .i64 m)]) [] [0,2,3,4,5,6,8] =
    bif decide (m > (s.size : Int)) then bif (bif true then decide (m ≤ 69) else false) then sRet8 s a n c o m else some (.normal,{ sS s a n c o [(8,.int .i64 m)] with tmps:=(sS s a n c o [(8,.int .i64 m)]).tmps }) else some (.normal,{ sS s a n c o [(8,.int .i64 m)] with tmps:=(sS s a n c o [(8,.int .i64 m)]).tmps }):=by kernel_rfl
def sX' (s : ByteArray) (a : Option Addr) (n c : Nat) (o m : Int) (x : Two Fr Bool) : St:=mkSt 69 [0,5,6,8,10] [.string s,.slice a n c,.int .i64 o,.int .i64 m,.bool x.b] [(9,4096,0)] [(4096,74,2)] [.int .i64 x.a.kind,.string x.a.data] fr2 frH frT
def sY (s : ByteArray) (a : Option Addr) (n c : Nat) (o m : Int) (x : Two Fr Bool) : St:=mkSt 69 [0,5,6,8,10,57] [.string s,.slice a n c,.int .i64 o,.int .i64 m,.bool x.b,.bool x.b] [(9,4096,0)] [(4096,74,2)] [.int .i64 x.a.kind,.string x.a.data] fr2 frH frT
def minI (a b : Int) : Int:=if b < a then b else a
theorem sr12 (m : Int) : frRun (scGam ix po op) 69 sc12 (sS s a n c o [(8,.int .i64 m)]) [4096] [0,5,6,8,9,10] =
    let q:=minI m s.size
    let cut:=s.extract ((0 : Nat) : Int).toNat q.toNat
    bif decide (0 ≤ ((0 : Nat) : Int) ∧ ((0 : Nat) : Int) ≤ q ∧ q ≤ (s.size : Int)) then bif po (cut,()) then some (.normal,sX' s a n c o m (op (cut,()))) else none else none:=by kernel_rfl
theorem sr13 (m : Int) (x : Two Fr Bool) : frRun (scGam ix po op) 69 sc13 (sX' s a n c o m x) [4096] [0,5,6,8,9,10,57] = some (.normal,sY s a n c o m x):=by kernel_rfl
theorem sr15 (m : Int) (x : Two Fr Bool) : frRun (scGam ix po op) 69 sc15 (sY s a n c o m x) [] [0,5,6] = bif decide (0 ≤ (1 : Int) ∧ 1 ≤ (s.size : Int) ∧ (s.size : Int) ≤ (s.size : Int)) then some (.normal,{ sS (s.extract (Int.toNat 1) ((s.size : Nat) : Int).toNat) a n c (IntKind.i64.wrap (o + 1)) [] with lo:=fr2 }) else none:=by kernel_rfl
end
end Go.Ab
namespace Go.Ab
open Go
abbrev Scd:=List Fr × List UInt8 × Nat
def skipS (x : Scd) : Scd:=(x.1,x.2.1,x.2.2 + 1)
def consS (f : Fr) (x : Scd) : Scd:=(f :: x.1,x.2)
def stepS (rec : List UInt8→Scd) (l : List UInt8) : Scd :=
  match l with
  | []=>([],[],0)
  | b :: r =>
    if b = 165 then
      if (b :: r).length < 3 then ([],b :: r,0)
      else if 64 < ((b :: r).getD 2 0).toNat then skipS (rec r)
      else if (b :: r).length < ((b :: r).getD 2 0).toNat + 5 then ([],b :: r,0)
      else if (openV (bsL ((b :: r).take (((b :: r).getD 2 0).toNat + 5)))).b then consS (openV (bsL ((b :: r).take (((b :: r).getD 2 0).toNat + 5)))).a (rec ((b :: r).drop (((b :: r).getD 2 0).toNat + 5)))
      else skipS (rec r)
    else skipS (rec r)
def scanF : Nat→List UInt8→Scd
  | 0=>fun _=>([],[],0)
  | n + 1=>stepS (scanF n)
theorem step_congr {f g : List UInt8→Scd} {l : List UInt8} (h : ∀ m,m.length < l.length→f m = g m) : stepS f l = stepS g l:=by
  unfold stepS
  cases l with
  | nil=>rfl
  | cons b r =>
    have hr:=h r (by simp)
    have hd : f ((b :: r).drop (((b :: r).getD 2 0).toNat + 5)) = g ((b :: r).drop (((b :: r).getD 2 0).toNat + 5)):=h _ (by simp; omega)
    simp only [hr,hd]
theorem scan_fuel : ∀ (n : Nat) (l : List UInt8),l.length ≤ n→scanF n l = scanF l.length l:=by
  intro n
  induction n using Nat.strongRecOn with
  | _ n ih =>
    intro l hl
    cases l with
    | nil=>cases n <;> rfl
    | cons b r =>
      cases n with
      | zero=>simp at hl
      | succ n =>
        show stepS (scanF n) (b :: r) = stepS (scanF r.length) (b :: r)
        refine step_congr fun m hm=>?_
        simp only [List.length_cons] at hm hl
        rw [ih n (by omega) m (by omega)]
        rcases Nat.lt_or_ge r.length (n + 1) with h | h
        · exact (ih r.length h m (by omega)).symm
        · have : r.length = n:=by omega
          rw [this]
          exact (ih n (by omega) m (by omega)).symm
def scanV (l : List UInt8) : Scd:=scanF l.length l
theorem scan_eq (l : List UInt8) : scanV l = stepS scanV l:=by
  cases l with
  | nil=>rfl
  | cons b r =>
    show stepS (scanF r.length) (b :: r) = _
    refine step_congr fun m hm=>?_
    simp only [List.length_cons] at hm
    exact scan_fuel r.length m (by omega)
theorem scan_nil : scanV [] = ([],[],0):=rfl
theorem scan_other {b : UInt8} {r : List UInt8} (h : b ≠ 165) : scanV (b :: r) = skipS (scanV r):=by
  rw [scan_eq]
  show (if b = 165 then _ else _) = _
  rw [if_neg h]
def addO (o : Nat) (x : Scd) : Scd:=(x.1,x.2.1,x.2.2 + o)
theorem skip_addO (o : Nat) (x : Scd) : skipS (addO o x) = addO (o + 1) x:=by unfold addO skipS; simp only [Prod.mk.injEq,true_and]; omega
theorem scan_skip : ∀ (i : Nat) (l : List UInt8),i ≤ l.length→(∀ j,j < i→l.getD j 0 ≠ 165)→scanV l = addO i (scanV (l.drop i))
  | 0,l,_,_=>by simp [addO]
  | i + 1,[],h,_=>by simp at h
  | i + 1,b :: r,h,hn=>by
    have h0 : b ≠ 165:=hn 0 (by omega)
    rw [scan_other h0,scan_skip i r (by simpa using h) fun j hj=>by simpa using hn (j + 1) (by omega),List.drop_succ_cons,skip_addO]
theorem scan_none {l : List UInt8} (h : ∀ j,j < l.length→l.getD j 0 ≠ 165) : scanV l = ([],[],l.length):=by
  rw [scan_skip l.length l (Nat.le_refl _) h,List.drop_length,scan_nil]
  simp [addO]
theorem open_third {l : List UInt8} (h : (openV (bsL l)).b = true) : (l.getD 2 0).toNat ≤ 64 ∧ 5 ≤ l.length:=by
  unfold openV at h
  dsimp only at h
  rw [data_bsL] at h
  split at h
  · rename_i g
    obtain ⟨g1,g2,g3⟩:=g
    refine ⟨?_,g1⟩
    rw [g3]
    unfold wrapL bodyL
    show (UInt8.ofNat _).toNat ≤ 64
    have:=ofNat8 (x:=((l.drop 3).take (l.length - 5)).length) (by omega)
    omega
  · cases h
theorem index_facts : ∀ (l : List UInt8) (c : UInt8),(Lib.indexByte l c = -1 ∧ ∀ j,j < l.length→l.getD j 0 ≠ c) ∨ ∃ i : Nat,Lib.indexByte l c = i ∧ i < l.length ∧ l.getD i 0 = c ∧ ∀ j,j < i→l.getD j 0 ≠ c
  | [],c=>.inl ⟨rfl,fun j h=>by simp at h⟩
  | b :: l,c=>by
    unfold Lib.indexByte
    by_cases hb : b = c
    · exact .inr ⟨0,by simp [hb],by simp,hb,fun j h=>by omega⟩
    · have e : (b == c) = false:=beq_eq_false_iff_ne.2 hb
      rw [e]
      simp only [Bool.false_eq_true,if_false]
      rcases index_facts l c with ⟨h1,h2⟩ | ⟨i,h1,h2,h3,h4⟩
      · left
        rw [h1]
        refine ⟨by simp,fun j hj=>?_⟩
        cases j with
        | zero=>exact hb
        | succ j=>simpa using h2 j (by simpa using hj)
      · right
        rw [h1]
        have : ((i : Int) == -1) = false:=beq_eq_false_iff_ne.2 (by omega)
        rw [this]
        refine ⟨i + 1,by simp,by simpa using h2,by simpa using h3,fun j hj=>?_⟩
        cases j with
        | zero=>exact hb
        | succ j=>simpa using h4 j (by omega)
theorem scan_mark {l : List UInt8} (h0 : l.getD 0 0 = 165) (hl : 0 < l.length) :
    scanV l = if l.length < 3 then ([],l,0) else if (l.getD 2 0).toNat + 5 > l.length ∧ (l.getD 2 0).toNat + 5 ≤ 69 then ([],l,0) else
      if (openV (bsL (l.take (min ((l.getD 2 0).toNat + 5) l.length)))).b then consS (openV (bsL (l.take (min ((l.getD 2 0).toNat + 5) l.length)))).a (scanV (l.drop ((l.getD 2 0).toNat + 5))) else skipS (scanV (l.drop 1)):=by
  cases l with
  | nil=>simp at hl
  | cons b r =>
    have hb : b = 165:=h0
    rw [scan_eq]
    show (if b = 165 then _ else _) = _
    rw [if_pos hb,List.drop_one,List.tail_cons]
    by_cases h3 : (b :: r).length < 3
    · rw [if_pos h3,if_pos h3]
    rw [if_neg h3,if_neg h3]
    generalize hm : ((b :: r).getD 2 0).toNat = m
    by_cases h64 : 64 < m
    · rw [if_pos h64,if_neg (fun g=>by omega)]
      have hno : ¬ (openV (bsL ((b :: r).take (min (m + 5) (b :: r).length)))).b = true:=by
        intro g
        have:=(open_third g).1
        have e : ((b :: r).take (min (m + 5) (b :: r).length)).getD 2 0 = (b :: r).getD 2 0:=by
          rw [List.getD_eq_getElem?_getD,List.getD_eq_getElem?_getD,List.getElem?_take]
          rw [if_pos (by simp only [List.length_cons] at h3 ⊢; omega)]
        rw [e,hm] at this
        omega
      rw [if_neg hno]
    · rw [if_neg h64]
      by_cases h5 : (b :: r).length < m + 5
      · rw [if_pos h5,if_pos ⟨h5,by omega⟩]
      · have e : min (m + 5) (b :: r).length = m + 5:=by omega
        rw [if_neg h5,e]
        exact (if_neg (c:=m + 5 > (b :: r).length ∧ m + 5 ≤ 69) fun g=>h5 g.1).symm
end Go.Ab
namespace Go.Ab
open Go Go.Proofs
theorem Stand.get {F : Nat→Prop} {w0 : World} {N : Nat} {s : St} {a : Act} {w : World} (h : Stand F w0 N s a w) {t : Nat} {v : Value} (ht : s.tmps[t]? = some (.val v)) : a.tmps[t]? = some v:=by
  obtain ⟨σ,h1,_⟩:=h
  obtain ⟨x,h1,h2⟩:=h1.tmp ht
  simp only [Rel] at h2
  rw [h1,h2]
theorem Stand.act {F : Nat→Prop} {w0 : World} {N : Nat} {s : St} {a : Act} {w : World} (h : Stand F w0 N s a w) : a.defers = [] ∧ a.tmps.size = N:=by
  obtain ⟨σ,⟨⟨u,hf,_⟩,_⟩,_⟩:=h
  exact ⟨hf.defers,hf.size⟩
theorem Stand.own {F : Nat→Prop} {w0 : World} {N : Nat} {s : St} {a : Act} {w : World} (h : Stand F w0 N s a w) {t b e : Nat} {vs : List Value} (ht : s.tmps[t]? = some (.ptr b 0)) (hb : hget s.heap b = some (.row e (vs.map .val))) :
    ∃ r,a.tmps[t]? = some (.pointer (some ⟨r,0,none⟩)) ∧ w.heap[r]? = some (.cells (List.toArray vs) e (0,0)):=by
  obtain ⟨σ,h1,_⟩:=h
  obtain ⟨x,h2,h3⟩:=h1.tmp ht
  simp only [Rel] at h3
  obtain ⟨r,h4,rfl⟩:=h3
  obtain ⟨⟨u,hf,hs⟩,_⟩:=h1
  obtain ⟨r',vs',h5,h6,h7⟩:=hf.row b e _ (hs _ _ (hget_own rfl hb))
  rw [h4] at h5
  cases h5
  rw [rels_vals _ _ h7] at h6
  exact ⟨r,h2,h6⟩
theorem Stand.puts {F : Nat→Prop} {w0 : World} {N : Nat} {w : World} : ∀ (sps : List Sp) {s : St} {a : Act},Stand F w0 N s a w→(∀ x ∈ sps,x.d < N)→s.tmps.length = N→Stand F w0 N { s with tmps:=sps.foldl (fun l p=>l.set p.d (.val p.val)) s.tmps } (sps.foldl (fun a s=>a.put (some s.d) s.val) a) w
  | [],_,_,h,_,_=>h
  | p :: r,s,a,h,hd,hl=>by
    have h1:=h.put (hd p (List.mem_cons_self ..)) hl p.val
    have:=Stand.puts r h1 (fun x hx=>hd x (List.mem_cons_of_mem _ hx)) (by simp [hl])
    exact this
def frCells (x : Fr) : List Value:=[.int .i64 x.kind,.string x.data]
def cellsF (l : List Fr) : List Value:=l.flatMap frCells
def sps14 (s s' : ByteArray) (l v' sl p : Value) (x : Fr) (m : Int) : List Sp :=
  [⟨0,58,true,[(5,l)],l,none⟩,⟨1,59,true,[(9,p)],.agg (List.toArray (frCells x)),some (0,0)⟩,⟨2,60,true,[(59,.agg (List.toArray (frCells x)))],sl,some (0,1)⟩,⟨3,61,true,[(58,l),(60,sl)],v',some (1,2)⟩,
   ⟨4,62,true,[(0,.string s)],.string s,none⟩,⟨5,63,true,[(8,.int .i64 m)],.int .i64 m,none⟩,⟨6,64,true,[(62,.string s),(63,.int .i64 m)],.string s',none⟩,⟨7,5,true,[(61,v')],v',none⟩,⟨8,0,true,[(64,.string s')],.string s',none⟩]
theorem any14 (s s' : ByteArray) (l v' sl p : Value) (x : Fr) (m : Int) : anyOk sO14.toList ((sps14 s s' l v' sl p x m).map fun s=>s.it.foot) = true:=by kernel_rfl
theorem mixed : Tryz.prog.follows .mixedOrders = true:=by kernel_rfl
theorem len14 (s s' : ByteArray) (l v' sl p : Value) (x : Fr) (m : Int) : (sps14 s s' l v' sl p x m).length = sO14.size:=by kernel_rfl
theorem e14_0 : sigOf sO14 0 = some (.move (.tmp 5),some 58,true):=by kernel_rfl
theorem e14_1 : sigOf sO14 1 = some (.load 74 (.tmp 9),some 59,true):=by kernel_rfl
theorem e14_2 : sigOf sO14 2 = some (.buildSlice 96 1 #[(0,.tmp 59)],some 60,true):=by kernel_rfl
theorem e14_3 : sigOf sO14 3 = some (.call { callee:=.builtin .append,args:=#[.tmp 58,.tmp 60],argTypes:=#[96,96] },some 61,true):=by kernel_rfl
theorem e14_4 : sigOf sO14 4 = some (.move (.tmp 0),some 62,true):=by kernel_rfl
theorem e14_5 : sigOf sO14 5 = some (.move (.tmp 8),some 63,true):=by kernel_rfl
theorem e14_6 : sigOf sO14 6 = some (.slice 9 (.tmp 62) (some (.tmp 63)) none none,some 64,true):=by kernel_rfl
theorem e14_7 : sigOf sO14 7 = some (.assign (.tmp 61),some 5,true):=by kernel_rfl
theorem e14_8 : sigOf sO14 8 = some (.assign (.tmp 64),some 0,true):=by kernel_rfl
theorem v33 : Tryz.prog.underlying 96 = some (.slice 74):=by kernel_rfl
theorem i26b : (Tryz.prog.info? 74).map (fun i=>(i.size,i.bytes)) = some (2,24):=by kernel_rfl
theorem i26z : ((Tryz.prog.info? 74).bind (·.zero)) = some (.agg #[.int .i64 0,.string ⟨#[]⟩]):=by kernel_rfl
theorem cells26 (x : Fr) : sliceCells Tryz.prog 96 1 [(0,.agg (List.toArray (frCells x)))] = some (74,frCells x):=by kernel_rfl
theorem info26 : ∃ ti,Tryz.prog.info? 74 = some ti ∧ ti.size = 2 ∧ ti.bytes = 24 ∧ ti.zero = some (.agg #[.int .i64 0,.string ⟨#[]⟩]):=by
  cases hi : Tryz.prog.info? 74 with
  | none=>have:=i26b; rw [hi] at this; cases this
  | some ti =>
    have h1:=i26b
    have h2:=i26z
    rw [hi] at h1 h2
    simp only [Option.map_some,Option.some.injEq,Prod.mk.injEq,Option.bind_some] at h1 h2
    exact ⟨ti,rfl,h1.1,h1.2,h2⟩
theorem und26 : (Tryz.prog.underlying 74).map isAggD = some true:=by kernel_rfl
theorem get_eval {a : Act} {t : Nat} {v : Value} (h : a.tmps[t]? = some v) : a.eval (.tmp t) = v:=by simp [Act.eval,h]
theorem spOk_of {P : Program} {ops : Array Oper} {W : Nat→World} {N : Nat} {s : Sp} {op : Op} (hs : sigOf ops s.i = some (op,some s.d,true)) (hd : s.d < N) (hon : s.on = true)
    (h : ∀ o : Oper,o.op = op→match s.tok with
      | none=>∀ (a : Act) (w : World),Reads s a→(execOp a.eval o).run P w = .ok (.value s.val) w
      | some (n,m)=>∀ a : Act,Reads s a→(execOp a.eval o).run P (W n) = .ok (.value s.val) (W m)) : SpOk P ops W N s:=by
  obtain ⟨o,ho,hop,hdst,hg⟩:=sigOf_some hs
  exact ⟨hd,o,ho,hdst,fun a _=>by rw [hon]; simp [Region.wanted,hg],(fun h'=>by rw [hon] at h'; cases h'),fun _=>h o hop⟩
theorem run_rest {P : Program} {t : TypeId} {s : ByteArray} {m : Int} (hu : P.underlying t = some .string) (h0 : 0 ≤ m) (h1 : m ≤ s.size) (w : World) : (Instr.sliceAt t (.string s) (some (.int .i64 m)) none none).run P w = .ok (.string (s.extract m.toNat s.size)) w:=by
  rw [run_sliceAt_string w t _ _ _ _ hu,run_slice_string_l w t s hu .i64 m h0 h1]
theorem run_loadRow {P : Program} {w : World} {t e : TypeId} {d : TypeDesc} {i : TypeInfo} {r : Nat} {cs : List Value} (hd : P.underlying t = some d) (hagg : isAggD d = true) (hi : P.info? t = some i) (hr : w.heap[r]? = some (.cells (List.toArray cs) e (0,0))) (hl : cs.length = i.size) :
    (loadVar t ⟨r,0,none⟩).run P w = .ok (.agg (List.toArray cs)) w:=by
  have hc:=run_loadCells_row (P:=P) w r 0 i.size e (0,0) cs cs hr (by rw [List.drop_zero,← hl,List.take_length]) hl
  unfold loadVar
  rw [Sem.run_bind,run_isAgg hd w,hagg]
  simp only [Result.andThen_ok,if_true,Sem.run_bind,run_sizeOf hi w,hc,Sem.run_pure]
theorem spOk14 {W : Nat→World} {s : ByteArray} {l v' : Value} {x : Fr} {m : Int} {r : Nat} (h0 : 0 ≤ m) (hm : m ≤ s.size) (hrow : (W 0).heap[r]? = some (.cells (List.toArray (frCells x)) 74 (0,0)))
    (h1 : W 1 = (W 0).alloc (.cells (List.toArray (frCells x)) 74)) (h2 : ∀ ty,(Builtin.append_ #[96,96] ty #[l,.slice (some ⟨(W 0).heap.size,0,none⟩) 1 1]).run Tryz.prog (W 1) = .ok v' (W 2)) :
    ∀ q ∈ sps14 s (s.extract m.toNat s.size) l v' (.slice (some ⟨(W 0).heap.size,0,none⟩) 1 1) (.pointer (some ⟨r,0,none⟩)) x m,SpOk Tryz.prog sO14 W 69 q:=by
  obtain ⟨ti,hti,ts,tb,tz⟩:=info26
  obtain ⟨td,htd,hag⟩ : ∃ td,Tryz.prog.underlying 74 = some td ∧ isAggD td = true:=by
    have:=und26
    cases h : Tryz.prog.underlying 74 with
    | none=>rw [h] at this; cases this
    | some td=>rw [h] at this; exact ⟨td,rfl,by simpa using this⟩
  intro q hq
  simp only [sps14,List.mem_cons,List.not_mem_nil,or_false] at hq
  rcases hq with rfl | rfl | rfl | rfl | rfl | rfl | rfl | rfl | rfl
  · refine spOk_of e14_0 (by dsimp only; omega) rfl fun o ho a w hr=>?_
    have:=get_eval (hr (5,l) (by simp))
    simp only [execOp,ho,this,Sem.run_pure]
  · refine spOk_of e14_1 (by dsimp only; omega) rfl fun o ho a hr=>?_
    have:=get_eval (hr (9,.pointer (some ⟨r,0,none⟩)) (by simp))
    simp only [execOp,ho,Instr.loadAt,this,Instr.sureAddr,Sem.run_bind,Sem.run_pure,Result.andThen_ok,run_loadRow htd hag hti hrow (by rw [ts]; rfl)]
  · refine spOk_of e14_2 (by dsimp only; omega) rfl fun o ho a hr=>?_
    have:=get_eval (hr (59,.agg (List.toArray (frCells x))) (by simp))
    have e1 : (#[(0,Operand.tmp 59)].map fun (p : Nat × Operand)=>(p.1,a.eval p.2)) = List.toArray [(0,Value.agg (List.toArray (frCells x)))]:=by simp [this]
    have e2:=sliceCells_run (P:=Tryz.prog) (cells26 x) (W 0)
    rw [← e1] at e2
    simp only [execOp,ho,Sem.run_bind,e2,h1]
    rfl
  · refine spOk_of e14_3 (by dsimp only; omega) rfl fun o ho a hr=>?_
    have hx:=get_eval (hr (58,l) (by simp))
    have hy:=get_eval (hr (60,.slice (some ⟨(W 0).heap.size,0,none⟩) 1 1) (by simp))
    simp only [execOp,ho,resolve,invoke,Go.builtin,Sem.run_bind,Sem.run_pure,Result.andThen_ok,hx,hy,List.map_toArray,List.map_cons,List.map_nil,h2]
  · refine spOk_of e14_4 (by dsimp only; omega) rfl fun o ho a w hr=>?_
    have:=get_eval (hr (0,.string s) (by simp))
    simp only [execOp,ho,this,Sem.run_pure]
  · refine spOk_of e14_5 (by dsimp only; omega) rfl fun o ho a w hr=>?_
    have:=get_eval (hr (8,.int .i64 m) (by simp))
    simp only [execOp,ho,this,Sem.run_pure]
  · refine spOk_of e14_6 (by dsimp only; omega) rfl fun o ho a w hr=>?_
    have hx:=get_eval (hr (62,.string s) (by simp))
    have hy:=get_eval (hr (63,.int .i64 m) (by simp))
    simp only [execOp,ho,hx,hy,Option.map_some,Option.map_none,Sem.run_bind,run_rest v9 h0 hm w,Result.andThen_ok,Sem.run_pure]
  · refine spOk_of e14_7 (by dsimp only; omega) rfl fun o ho a w hr=>?_
    have:=get_eval (hr (61,v') (by simp))
    simp only [execOp,ho,this,Sem.run_pure]
  · refine spOk_of e14_8 (by dsimp only; omega) rfl fun o ho a w hr=>?_
    have:=get_eval (hr (64,.string (s.extract m.toNat s.size)) (by simp))
    simp only [execOp,ho,this,Sem.run_pure]
theorem chOk14 {f : Nat→Option Value} {s s' : ByteArray} {l v' sl p : Value} {x : Fr} {m : Int} (h5 : f 5 = some l) (h9 : f 9 = some p) (h0 : f 0 = some (.string s)) (h8 : f 8 = some (.int .i64 m)) : ChOk (sps14 s s' l v' sl p x m) f 0 2:=by
  unfold sps14
  simp [ChOk,h5,h9,h0,h8]
end Go.Ab
namespace Go.Ab
open Go Go.Proofs
theorem wk14 (s s' : ByteArray) (a : Option Addr) (n c : Nat) (o m : Int) (x : Two Fr Bool) (g : Option Addr) (n' c' : Nat) (sl p : Value) :
    dropSt [] (others 69 [0,5,6]) { sY s a n c o m x with tmps:=(sps14 s s' (.slice a n c) (.slice g n' c') sl p x.a m).foldl (fun l p=>l.set p.d (.val p.val)) (sY s a n c o m x).tmps } = { sS s' g n' c' o [] with lo:=fr2 }:=by kernel_rfl
theorem cl14 (s : ByteArray) (a : Option Addr) (n c : Nat) (o : Int) : okClean 4096 { sS s a n c o [] with lo:=fr2 } = true:=by kernel_rfl
theorem ct14 (s : ByteArray) (a : Option Addr) (n c : Nat) (o : Int) : ({ ({ sS s a n c o [] with lo:=fr2 } : St) with lo:=4096,hi:=frH } : St) = sS s a n c o []:=by kernel_rfl
theorem lY (s : ByteArray) (a : Option Addr) (n c : Nat) (o m : Int) (x : Two Fr Bool) : (sY s a n c o m x).tmps.length = 69:=by kernel_rfl
theorem hY (s : ByteArray) (a : Option Addr) (n c : Nat) (o m : Int) (x : Two Fr Bool) : hget (sY s a n c o m x).heap 4096 = some (.row 74 ((frCells x.a).map .val)):=by kernel_rfl
theorem row_lt {w : World} {r : Nat} {o : Obj} (h : w.heap[r]? = some o) : r < w.heap.size:=by
  rw [Array.getElem?_eq_some_iff] at h
  exact h.1
theorem scan_found {W0 wb : World} {F : Nat→Prop} {s : ByteArray} {a : Option Addr} {n c : Nat} {o m : Int} {x : Two Fr Bool} {fs : List Fr} {act : Act} {w : World} (L : Live W0 F wb) (hst : Stand F wb 69 (sY s a n c o m x) act w)
    (hown : wb.ownsRow W0.heap.size 74 2 (.slice a n c) n (cellsF fs)) (hF : ∀ r,(Value.slice a n c).ownBlock = some r→F r) (hn : n ≤ 1099511627776) (h0 : 0 ≤ m) (hm : m ≤ s.size) {Q : Exit→Act→World→Prop}
    (hQ : ∀ F' wb' a' c' act' w',Live W0 F' wb'→Stand F' wb' 69 (sS (s.extract m.toNat s.size) a' (n + 1) c' o []) act' w'→wb'.ownsRow W0.heap.size 74 2 (.slice a' (n + 1) c') (n + 1) (cellsF (fs ++ [x.a]))→(∀ r,(Value.slice a' (n + 1) c').ownBlock = some r→F' r)→Q .normal act' w') :
    (Code.region 14 sO14 true).wp Tryz.prog Q act w:=by
  obtain ⟨ti,hti,ts,tb,tz⟩:=info26
  obtain ⟨r,h9,hrow⟩:=hst.own (t:=9) (b:=4096) (vs:=frCells x.a) rfl (hY ..)
  obtain ⟨hd,hs⟩:=hst.act
  have hFlt : ∀ k,F k→k < w.heap.size:=fun k hk=>hst.keep.lt hk
  have hownw:=owns_keep (w':=w) hown fun k hk=>(hst.keep.frame k (hF k hk)).2
  have hbase : ∀ k,(Value.slice a n c).ownBlock = some k→W0.heap.size ≤ k:=by
    intro k hk
    rcases hown.2 with ⟨h1,_⟩ | ⟨g,c1,cur,h1,h2,_⟩
    · rw [h1] at hk; cases hk
    · rw [h1] at hk; cases hk; exact h2
  have hLs:=L.size hst
  generalize hw0 : ({ w with drawn:=w.drawn + 1 } : World) = w00
  have hh0 : w00.heap = w.heap:=by rw [← hw0]
  have h0os : w00.os = w.os ∧ w00.tape = w.tape ∧ w00.output = w.output:=by rw [← hw0]; exact ⟨rfl,rfl,rfl⟩
  have hown0:=owns_keep (w':=w00) hownw fun k _=>by rw [hh0]
  generalize hw1 : w00.alloc (.cells (List.toArray (frCells x.a)) 74) = w1
  have g1:=alloc_grown w00 (.cells (List.toArray (frCells x.a)) 74)
  rw [hw1] at g1
  have hs1 : w1.heap.size = w.heap.size + 1:=by rw [← hw1,← hh0]; exact Array.size_push ..
  have hnew : w1.heap[w00.heap.size]? = some (.cells (List.toArray (frCells x.a)) 74 (0,0)):=by
    rw [← hw1]
    show (w00.heap.push _)[w00.heap.size]? = _
    simp
  have hown1:=owns_keep (w':=w1) hown0 fun k hk=>g1.block k (by rw [hh0]; exact hFlt k (hF k hk)) (by simp)
  obtain ⟨v',w2,hr2,own2,g2,n2⟩:=append_fresh (P:=Tryz.prog) w1 96 0 74 ti _ 2 24 v33 hti tz ts tb rfl (by omega) W0.heap.size _ n _ hown1 ⟨w00.heap.size,0,none⟩ 1 1 (frCells x.a) rfl
    (fun j u hj=>by
      rw [addr_add,Nat.zero_add]
      simp only [World.cell?,hnew]
      simpa using hj) (fun u hu=>by simp only [frCells,List.mem_cons,List.not_mem_nil,or_false] at hu; rcases hu with rfl | rfl <;> rfl) (by simp only [maxLen]; omega) (by omega) (by omega)
  have hv' : ∃ g c',v' = .slice (some ⟨g,0,none⟩) (n + 1) c' ∧ g < w2.heap.size:=by
    rcases own2.2 with ⟨_,h1⟩ | ⟨g,c',cur,e1,_,e3,_⟩
    · omega
    · exact ⟨g,c',e1,row_lt e3⟩
  obtain ⟨g,c',rfl,hgl⟩:=hv'
  have hsame : ∀ j,j < w.heap.size→(∀ k,(Value.slice a n c).ownBlock = some k→k ≠ j)→w2.heap[j]? = w.heap[j]?:=by
    intro j hj hne
    rw [g2.block j (by omega) fun e=>hne j e.symm rfl,g1.block j (by rw [hh0]; exact hj) (by simp),hh0]
  have hgrow : w.heap.size ≤ w2.heap.size:=by have:=g2.size; omega
  refine draw_vals (W:=fun | 0=>w00 | 1=>w1 | _=>w2) (N:=69) (e:=2) mixed (len14 s (s.extract m.toNat s.size) (.slice a n c) (.slice (some ⟨g,0,none⟩) (n + 1) c') (.slice (some ⟨w00.heap.size,0,none⟩) 1 1) (.pointer (some ⟨r,0,none⟩)) x.a m) (fun k q hk=>?_) (any14 ..)
    (spOk14 (W:=fun | 0=>w00 | 1=>w1 | _=>w2) h0 hm (by show w00.heap[r]? = _; rw [hh0]; exact hrow) hw1.symm hr2) hd hs hw0.symm (chOk14 (hst.get rfl) h9 (hst.get rfl) (hst.get rfl)) ?_
  · match k,hk with
    | 0,hk=>cases hk; rfl
    | 1,hk=>cases hk; rfl
    | 2,hk=>cases hk; rfl
    | 3,hk=>cases hk; rfl
    | 4,hk=>cases hk; rfl
    | 5,hk=>cases hk; rfl
    | 6,hk=>cases hk; rfl
    | 7,hk=>cases hk; rfl
    | 8,hk=>cases hk; rfl
    | k + 9,hk=>simp [sps14] at hk
  · have hmv:=(hst.moved (w':=w2) hgrow fun j hj hnF=>hsame j hj fun k hk e=>hnF (by rw [← e]; exact hF k hk)).puts (sps14 s (s.extract m.toNat s.size) (.slice a n c) (.slice (some ⟨g,0,none⟩) (n + 1) c') (.slice (some ⟨w00.heap.size,0,none⟩) 1 1) (.pointer (some ⟨r,0,none⟩)) x.a m)
      (fun q hq=>by
        simp only [sps14,List.mem_cons,List.not_mem_nil,or_false] at hq
        rcases hq with rfl | rfl | rfl | rfl | rfl | rfl | rfl | rfl | rfl <;> (dsimp only; omega)) (lY ..)
    have hwk:=hmv.weak (s':={ sS (s.extract m.toNat s.size) (some ⟨g,0,none⟩) (n + 1) c' o [] with lo:=fr2 }) (by
      rw [← wk14 s (s.extract m.toNat s.size) a n c o m x (some ⟨g,0,none⟩) (n + 1) c' (.slice (some ⟨w00.heap.size,0,none⟩) 1 1) (.pointer (some ⟨r,0,none⟩))]
      exact dropSt_wk _ _ _) (Nat.le_refl _) (Nat.le_refl _)
    have hct:=hwk.cut (lo:=4096) (hi:=frH) (cl14 ..)
    rw [ct14] at hct
    refine hQ (Wide F w w2) w2 (some ⟨g,0,none⟩) c' _ w2 (L.step hst (g2.os.trans (g1.os.trans h0os.1)) (g2.tape.trans (g1.tape.trans h0os.2.1)) (g2.output.trans (g1.output.trans h0os.2.2)) hgrow fun j hj=>hsame j (by omega) fun k hk e=>by have:=hbase k hk; omega) hct ?_ fun k hk=>?_
    · have e : cellsF (fs ++ [x.a]) = cellsF fs ++ frCells x.a:=by unfold cellsF; rw [List.flatMap_append]; simp
      rw [e]
      exact own2
    · cases hk
      rcases n2 g rfl with h | h
      · exact .inl (hF g h)
      · have h : w1.heap.size ≤ g:=h
        exact .inr ⟨by show w.heap.size ≤ g; omega,hgl⟩
def ScanX (W0 : World) (x : Scd) (v : Value) (w' : World) : Prop:=∃ a c,v = .tuple #[.slice a x.1.length c,.string (bsL x.2.1),.int .i64 (x.2.2 : Int)] ∧ w'.ownsRow W0.heap.size 74 2 (.slice a x.1.length c) x.1.length (cellsF x.1)
def ScanR (W0 : World) (x : Scd) (act : Act) (w : World) : Prop:=∃ v,(results Tryz.f162 act.tmps).run Tryz.prog w = .ok v w ∧ act.defers = [] ∧ RowKit.Below W0.heap.size W0 w ∧ ScanX W0 x v w
theorem scan_ret {W0 wb : World} {F : Nat→Prop} {s : St} {a : Option Addr} {n c : Nat} {fs : List Fr} {l : List UInt8} {o : Nat} {act : Act} {w : World} (L : Live W0 F wb) (hst : Stand F wb 69 s act w) (hown : wb.ownsRow W0.heap.size 74 2 (.slice a n c) n (cellsF fs)) (hF : ∀ r,(Value.slice a n c).ownBlock = some r→F r) (hn : fs.length = n)
    (hr : resA Tryz.prog s Tryz.f162.results.toList = some [.val (.slice a n c),.val (.string (bsL l)),.val (.int .i64 (o : Int))]) : ScanR W0 (fs,l,o) act w:=by
  obtain ⟨y1,y2,y3⟩:=hst.resultsV (P:=Tryz.prog) (fn:=Tryz.f162) (v:=.tuple #[.slice a n c,.string (bsL l),.int .i64 (o : Int)]) hr rfl
  subst hn
  exact ⟨_,y1,y2,(L.chain _ y3).below,a,c,rfl,owns_keep hown fun r hr=>(hst.keep.frame r (hF r hr)).2⟩
def catS (fs : List Fr) (o : Nat) (x : Scd) : Scd:=(fs ++ x.1,x.2.1,o + x.2.2)
section
variable (s s' : ByteArray) (a : Option Addr) (n c : Nat) (o i m : Int) (x : Two Fr Bool)
theorem oS0 : okNamed (mkSt 69 [0] [.string s] [] [] [] 4096 frH frT) = true:=by kernel_rfl
theorem oS1 : okNamed (mkSt 69 [0,5] [.string s,.slice none 0 0] [] [] [] 4096 frH frT) = true:=by kernel_rfl
theorem oS2 : okNamed (sS s a n c o []) = true:=by kernel_rfl
theorem oS3 : okNamed (sS s a n c o [(7,.int .i64 i)]) = true:=by kernel_rfl
theorem oS8 : okNamed (sS s a n c o [(8,.int .i64 i)]) = true:=by kernel_rfl
theorem oS4 : okNamed (mkSt 69 [0,5,6,7,2,3,4] [.string s,.slice a n c,.int .i64 o,.int .i64 i,.slice a n c,.string ⟨#[]⟩,.int .i64 m] [] [] [] 4096 frH frT) = true:=by kernel_rfl
theorem oS7 : okNamed (mkSt 69 [0,5,6,2,3,4] [.string s,.slice a n c,.int .i64 o,.slice a n c,.string s,.int .i64 o] [] [] [] 4096 frH frT) = true:=by kernel_rfl
theorem oS10 : okNamed (mkSt 69 [0,5,6,8,2,3,4] [.string s,.slice a n c,.int .i64 o,.int .i64 m,.slice a n c,.string s,.int .i64 o] [] [] [] 4096 frH frT) = true:=by kernel_rfl
theorem oSX : okNamed (sX' s a n c o m x) = true:=by kernel_rfl
theorem oSY : okNamed (sY s a n c o m x) = true:=by kernel_rfl
theorem oS15 : okNamed { sS s a n c o [] with lo:=fr2 } = true:=by kernel_rfl
theorem rS4 : resA Tryz.prog (mkSt 69 [0,5,6,7,2,3,4] [.string s,.slice a n c,.int .i64 o,.int .i64 i,.slice a n c,.string ⟨#[]⟩,.int .i64 m] [] [] [] 4096 frH frT) Tryz.f162.results.toList = some [.val (.slice a n c),.val (.string ⟨#[]⟩),.val (.int .i64 m)]:=by kernel_rfl
theorem rS7 : resA Tryz.prog (mkSt 69 [0,5,6,2,3,4] [.string s,.slice a n c,.int .i64 o,.slice a n c,.string s,.int .i64 o] [] [] [] 4096 frH frT) Tryz.f162.results.toList = some [.val (.slice a n c),.val (.string s),.val (.int .i64 o)]:=by kernel_rfl
theorem rS10 : resA Tryz.prog (mkSt 69 [0,5,6,8,2,3,4] [.string s,.slice a n c,.int .i64 o,.int .i64 m,.slice a n c,.string s,.int .i64 o] [] [] [] 4096 frH frT) Tryz.f162.results.toList = some [.val (.slice a n c),.val (.string s),.val (.int .i64 o)]:=by kernel_rfl
end
theorem scG : GamOk Tryz.prog (scGam idxV szOk fun p=>openV p.1):=.cons okIdx (.cons okOpen .nil)
theorem scCall : ∀ β,CallOk Tryz.prog (callN Tryz.prog { gam:=scGam idxV szOk fun p=>openV p.1 } 1 β):=callN_ok (E:={ gam:=scGam idxV szOk fun p=>openV p.1 }) scG 1
end Go.Ab
namespace Go.Ab
open Go Go.Proofs
structure SInv (W0 : World) (S0 l : List UInt8) (fs : List Fr) (o : Nat) (F : Nat→Prop) (wb : World) (a : Option Addr) (n c : Nat) (act : Act) (w : World) : Prop where
  live : Live W0 F wb
  stand : Stand F wb 69 (sS (bsL l) a n c o []) act w
  own : wb.ownsRow W0.heap.size 74 2 (.slice a n c) n (cellsF fs)
  prot : ∀ r,(Value.slice a n c).ownBlock = some r→F r
  len : fs.length = n
  b1 : n + l.length ≤ S0.length
  b2 : o + l.length ≤ S0.length
  eq : scanV S0 = catS fs o (scanV l)
theorem rest_bsL (l : List UInt8) (i : Nat) : (bsL l).extract i (bsL l).size = bsL (l.drop i):=by
  rw [extract_bsL,size_bsL,List.take_of_length_le (by simp)]
theorem take_bsL (l : List UInt8) (i : Nat) : (bsL l).extract 0 i = bsL (l.take i):=by
  rw [extract_bsL,List.drop_zero,Nat.sub_zero]
theorem byteI_bsL (l : List UInt8) : byteI (bsL l) 2 = (l.getD 2 0).toNat:=by unfold byteI; rw [data_bsL]; rfl
theorem sr10' {s : ByteArray} {a : Option Addr} {n c : Nat} {o m : Int} (h : ¬ (m > (s.size : Int) ∧ m ≤ 69)) : frRun (scGam idxV szOk fun p=>openV p.1) 69 sc10 (sS s a n c o [(8,.int .i64 m)]) [] [0,2,3,4,5,6,8] = some (.normal,sS s a n c o [(8,.int .i64 m)]):=by
  rw [sr10]
  by_cases c8 : m > (s.size : Int)
  · rw [decide_eq_true c8,decide_eq_false (p:=m ≤ 69) fun g=>h ⟨c8,g⟩]
    simp only [cond_true,cond_false]
  · rw [decide_eq_false c8]
    simp only [cond_false]
noncomputable def restS : Code:=.seq sc9 (.seq sc10 (.seq sc12 (.seq sc13 (.cond (.tmp 57) (.region 14 sO14 true) sc15))))
section
variable {W0 : World} {S0 : List UInt8} {Q : Exit→Act→World→Prop}
abbrev GoOn (W0 : World) (S0 : List UInt8) (k : Nat) (Q : Exit→Act→World→Prop) : Prop:=∀ l' fs' o' F' wb' a' n' c' act' w',l'.length < k→SInv W0 S0 l' fs' o' F' wb' a' n' c' act' w'→Q .normal act' w'
abbrev GoRet (W0 : World) (S0 : List UInt8) (Q : Exit→Act→World→Prop) : Prop:=∀ act' w',ScanR W0 (scanV S0) act' w'→Q .ret act' w'
theorem scan_tail (hS : S0.length ≤ 1099511627776) {l' : List UInt8} {fs : List Fr} {o k : Nat} {F : Nat→Prop} {wb : World} {a : Option Addr} {n c : Nat} {act : Act} {w : World} {m : Nat} {x : Two Fr Bool} (L : Live W0 F wb) (h8 : Stand F wb 69 (sY (bsL l') a n c o (m + 5 : Nat) x) act w)
    (hown : wb.ownsRow W0.heap.size 74 2 (.slice a n c) n (cellsF fs)) (hF : ∀ r,(Value.slice a n c).ownBlock = some r→F r) (hlen : fs.length = n) (hb1 : n + l'.length ≤ S0.length) (hb2 : o + l'.length ≤ S0.length) (hk : l'.length ≤ k) (h3 : 3 ≤ l'.length)
    (hm5 : x.b = true→m + 5 ≤ l'.length) (heq : scanV S0 = catS fs o (if x.b then consS x.a (scanV (l'.drop (m + 5))) else skipS (scanV (l'.drop 1)))) (hN : GoOn W0 S0 k Q) : (Code.cond (.tmp 57) (.region 14 sO14 true) sc15).wp Tryz.prog Q act w:=by
  have hsz':=size_bsL l'
  cases hxb : x.b with
  | true =>
    rw [hxb,if_pos rfl] at heq
    have hm:=hm5 hxb
    refine wp_cond_true ((h8.eval (t:=57) rfl).trans (by rw [hxb])) (scan_found (m:=(m + 5 : Nat)) L h8 hown hF (by omega) (by omega) (by omega) fun F' wb' a' c' act' w' L' hst' hown' hF'=>?_)
    rw [Int.toNat_natCast,rest_bsL] at hst'
    have hd : (l'.drop (m + 5)).length = l'.length - (m + 5):=List.length_drop ..
    refine hN (l'.drop (m + 5)) (fs ++ [x.a]) o F' wb' a' (n + 1) c' act' w' (by omega) ⟨L',hst',hown',hF',by simp [hlen],by omega,by omega,?_⟩
    rw [heq]
    unfold catS consS
    simp
  | false =>
    rw [hxb,if_neg (by simp)] at heq
    have hrun:=sr15 idxV szOk (fun p=>openV p.1) (bsL l') a n c o (m + 5 : Nat) x
    rw [decide_eq_true (p:=0 ≤ (1 : Int) ∧ 1 ≤ ((bsL l').size : Int) ∧ ((bsL l').size : Int) ≤ ((bsL l').size : Int)) (by omega),cond_true,Int.toNat_natCast,show Int.toNat 1 = 1 from rfl,rest_bsL,show IntKind.i64.wrap (((o : Nat) : Int) + 1) = ((o + 1 : Nat) : Int) by rw [wrapM]; omega] at hrun
    refine wp_cond_false ((h8.eval (t:=57) rfl).trans (by rw [hxb])) ((runs_drop scCall _ _ hrun).stand (oS15 ..) h8 fun a9 w9 h9=>?_)
    have hct:=h9.cut (lo:=4096) (hi:=frH) (cl14 ..)
    rw [ct14] at hct
    have hd : (l'.drop 1).length = l'.length - 1:=List.length_drop ..
    refine hN (l'.drop 1) fs (o + 1) F wb a n c a9 w9 (by omega) ⟨L,hct,hown,hF,hlen,by omega,by omega,?_⟩
    rw [heq]
    unfold catS skipS
    simp only [Prod.mk.injEq,true_and]
    omega
theorem scan_mid (hS : S0.length ≤ 1099511627776) {l' : List UInt8} {fs : List Fr} {o k : Nat} {F : Nat→Prop} {wb : World} {a : Option Addr} {n c : Nat} {act : Act} {w : World} (L : Live W0 F wb) (h4 : Stand F wb 69 (sS (bsL l') a n c o []) act w)
    (hown : wb.ownsRow W0.heap.size 74 2 (.slice a n c) n (cellsF fs)) (hF : ∀ r,(Value.slice a n c).ownBlock = some r→F r) (hlen : fs.length = n) (hb1 : n + l'.length ≤ S0.length) (hb2 : o + l'.length ≤ S0.length) (hk : l'.length ≤ k) (c3 : ¬ l'.length < 3)
    (heq2 : scanV S0 = catS fs o (if (l'.getD 2 0).toNat + 5 > l'.length ∧ (l'.getD 2 0).toNat + 5 ≤ 69 then ([],l',0) else
      if (openV (bsL (l'.take (min ((l'.getD 2 0).toNat + 5) l'.length)))).b then consS (openV (bsL (l'.take (min ((l'.getD 2 0).toNat + 5) l'.length)))).a (scanV (l'.drop ((l'.getD 2 0).toNat + 5))) else skipS (scanV (l'.drop 1)))) (hN : GoOn W0 S0 k Q) (hR : GoRet W0 S0 Q) : restS.wp Tryz.prog Q act w:=by
  have hsz':=size_bsL l'
  have hm0:=(l'.getD 2 0).toNat_lt
  have hthird : (l'.take (min ((l'.getD 2 0).toNat + 5) l'.length)).getD 2 0 = l'.getD 2 0:=by
    rw [List.getD_eq_getElem?_getD,List.getD_eq_getElem?_getD,List.getElem?_take,if_pos (by omega)]
  have h64 : (openV (bsL (l'.take (min ((l'.getD 2 0).toNat + 5) l'.length)))).b = true→(l'.getD 2 0).toNat ≤ 64:=by
    intro g
    have:=(open_third g).1
    rwa [hthird] at this
  have hrun:=sr9 idxV szOk (fun p=>openV p.1) (bsL l') a n c o
  rw [decide_eq_true (p:=0 ≤ (2 : Int) ∧ 2 < ((bsL l').size : Int)) (by omega),cond_true,byteI_bsL] at hrun
  generalize (l'.getD 2 0).toNat = m at hm0 h64 hrun heq2
  rw [show IntKind.i64.wrap (IntKind.i64.wrap (m : Int) + 5) = ((m + 5 : Nat) : Int) by rw [wrapM,wrapM]; omega] at hrun
  refine wp_seq ((runs_drop scCall _ _ hrun).stand (oS8 ..) h4 fun a5 w5 h5=>?_)
  by_cases c10 : m + 5 > l'.length ∧ m + 5 ≤ 69
  · have hrun:=sr10 idxV szOk (fun p=>openV p.1) (bsL l') a n c o (m + 5 : Nat)
    rw [decide_eq_true (p:=((m + 5 : Nat) : Int) > ((bsL l').size : Int)) (by omega),cond_true,decide_eq_true (p:=((m + 5 : Nat) : Int) ≤ 69) (by omega)] at hrun
    simp only [cond_true] at hrun
    refine wp_seq ((runs_drop scCall _ _ hrun).stand (oS10 ..) h5 fun a6 w6 h6=>hR a6 w6 ?_)
    have hx : scanV S0 = (fs,l',o):=by rw [heq2,if_pos c10]; simp [catS]
    rw [hx]
    exact scan_ret L h6 hown hF hlen (rS10 ..)
  rw [if_neg c10] at heq2
  refine wp_seq ((runs_drop scCall _ _ (sr10' (m:=(m + 5 : Nat)) fun g=>c10 (by omega))).stand (oS8 ..) h5 fun a6 w6 h6=>?_)
  have hrun:=sr12 idxV szOk (fun p=>openV p.1) (bsL l') a n c o (m + 5 : Nat)
  dsimp only at hrun
  have hq : minI ((m + 5 : Nat) : Int) ((bsL l').size : Int) = ((min (m + 5) l'.length : Nat) : Int):=by unfold minI; split <;> omega
  rw [hq,decide_eq_true (p:=0 ≤ ((0 : Nat) : Int) ∧ ((0 : Nat) : Int) ≤ ((min (m + 5) l'.length : Nat) : Int) ∧ ((min (m + 5) l'.length : Nat) : Int) ≤ ((bsL l').size : Int)) (by omega),cond_true,Int.toNat_natCast,Int.toNat_natCast,take_bsL] at hrun
  have hpre : szOk (bsL (l'.take (min (m + 5) l'.length)),()) = true:=decide_eq_true (by show (bsL _).size ≤ _; rw [size_bsL,List.length_take]; omega)
  rw [hpre,cond_true] at hrun
  refine wp_seq ((runs_drop scCall _ _ hrun).stand (oSX ..) h6 fun a7 w7 h7=>?_)
  refine wp_seq ((runs_drop scCall _ _ (sr13 idxV szOk (fun p=>openV p.1) (bsL l') a n c o (m + 5 : Nat) (openV (bsL (l'.take (min (m + 5) l'.length)))))).stand (oSY ..) h7 fun a8 w8 h8=>?_)
  exact scan_tail hS L h8 hown hF hlen hb1 hb2 hk (by omega) (fun g=>by have:=h64 g; omega) heq2 hN
theorem scan_step (hS : S0.length ≤ 1099511627776) {l : List UInt8} {fs : List Fr} {o : Nat} {F : Nat→Prop} {wb : World} {a : Option Addr} {n c : Nat} {act : Act} {w : World} (I : SInv W0 S0 l fs o F wb a n c act w) (hN : GoOn W0 S0 l.length Q) (hR : GoRet W0 S0 Q) : (Code.block 1 sB).wp Tryz.prog Q act w:=by
  obtain ⟨L,hst,hown,hF,hlen,hb1,hb2,heq⟩:=I
  refine wp_block ?_
  rw [sB_is]
  refine wp_seq ((runs_drop scCall _ _ (sr3 idxV szOk (fun p=>openV p.1) (bsL l) a n c o)).stand (oS3 ..) hst fun a1 w1 h1=>?_)
  have hidx : idxV (bsL l,⟨165⟩,()) = Lib.indexByte l 165:=by unfold idxV; rw [data_bsL]; rfl
  rw [hidx] at h1
  have hsz:=size_bsL l
  rcases index_facts l 165 with ⟨hi,hno⟩ | ⟨i,hi,hil,hi0,hij⟩
  · rw [hi] at h1
    have hrun:=sr4 idxV szOk (fun p=>openV p.1) (bsL l) a n c o (-1)
    rw [decide_eq_true (p:=(-1 : Int) < 0) (by decide),cond_true,show IntKind.i64.wrap ((o : Int) + ((bsL l).size : Int)) = ((o + l.length : Nat) : Int) by rw [size_bsL,wrapM]; omega] at hrun
    refine wp_seq ((runs_drop scCall _ _ hrun).stand (oS4 ..) h1 fun a2 w2 h2=>hR a2 w2 ?_)
    have hx : scanV S0 = (fs,[],o + l.length):=by rw [heq,scan_none hno]; simp [catS]
    rw [hx]
    exact scan_ret (l:=[]) L h2 hown hF hlen (rS4 ..)
  rw [hi] at h1
  have hrun:=sr4 idxV szOk (fun p=>openV p.1) (bsL l) a n c o i
  rw [decide_eq_false (p:=(i : Int) < 0) (by omega),cond_false] at hrun
  refine wp_seq ((runs_drop scCall _ _ hrun).stand (oS3 ..) h1 fun a2 w2 h2=>?_)
  have hrun:=sr6 idxV szOk (fun p=>openV p.1) (bsL l) a n c o i
  rw [decide_eq_true (p:=0 ≤ (i : Int) ∧ (i : Int) ≤ ((bsL l).size : Int) ∧ ((bsL l).size : Int) ≤ ((bsL l).size : Int)) (by omega),cond_true,Int.toNat_natCast,Int.toNat_natCast,rest_bsL,show IntKind.i64.wrap ((o : Int) + (i : Int)) = ((o + i : Nat) : Int) by rw [wrapM]; omega] at hrun
  refine wp_seq ((runs_drop scCall _ _ hrun).stand (oS2 ..) h2 fun a3 w3 h3=>?_)
  have hll : (l.drop i).length = l.length - i:=List.length_drop ..
  have hl0 : (l.drop i).getD 0 0 = 165:=by
    rw [List.getD_eq_getElem?_getD,List.getElem?_drop,Nat.add_zero,← List.getD_eq_getElem?_getD]
    exact hi0
  have heq2 : scanV S0 = catS fs (o + i) (scanV (l.drop i)):=by
    rw [heq,scan_skip i l (by omega) hij]
    unfold catS addO
    simp only [Prod.mk.injEq,true_and]
    omega
  generalize hl' : l.drop i = l' at h3 hll hl0 heq2
  rw [scan_mark hl0 (by omega)] at heq2
  have hsz':=size_bsL l'
  have hrun:=sr7 idxV szOk (fun p=>openV p.1) (bsL l') a n c (o + i : Nat)
  by_cases c3 : l'.length < 3
  · rw [decide_eq_true (p:=((bsL l').size : Int) < 3) (by omega),cond_true] at hrun
    refine wp_seq ((runs_drop scCall _ _ hrun).stand (oS7 ..) h3 fun a4 w4 h4=>hR a4 w4 ?_)
    have hx : scanV S0 = (fs,l',o + i):=by rw [heq2,if_pos c3]; simp [catS]
    rw [hx]
    exact scan_ret L h4 hown hF hlen (rS7 ..)
  rw [decide_eq_false (p:=((bsL l').size : Int) < 3) (by omega),cond_false] at hrun
  rw [if_neg c3] at heq2
  refine wp_seq ((runs_drop scCall _ _ hrun).stand (oS2 ..) h3 fun a4 w4 h4=>?_)
  exact scan_mid (o:=o + i) hS L h4 hown hF hlen (by omega) (by omega) (by omega) c3 heq2 hN hR
end
theorem scan_rounds {W0 : World} {S0 : List UInt8} (hS : S0.length ≤ 1099511627776) {Q : Exit→Act→World→Prop} (hR : ∀ act' w',ScanR W0 (scanV S0) act' w'→Q .ret act' w') :
    ∀ (k : Nat) (l : List UInt8) (fs : List Fr) (o : Nat) (F : Nat→Prop) (wb : World) (a : Option Addr) (n c : Nat) (act : Act) (w : World),l.length ≤ k→SInv W0 S0 l fs o F wb a n c act w→Code.rounds Tryz.prog (.block 1 sB) Q (k + 1) act w:=by
  intro k
  induction k with
  | zero =>
    intro l fs o F wb a n c act w hk I
    rw [rounds_succ]
    exact scan_step hS I (fun l' _ _ _ _ _ _ _ _ _ h _=>by omega) fun act' w' h=>hR act' w' h
  | succ k ih =>
    intro l fs o F wb a n c act w hk I
    rw [rounds_succ]
    exact scan_step hS I (fun l' fs' o' F' wb' a' n' c' act' w' h I'=>ih l' fs' o' F' wb' a' n' c' act' w' (by omega) I') fun act' w' h=>hR act' w' h
theorem f16_is : Tryz.prog.funcs[162]? = some Tryz.f162:=by kernel_rfl
theorem scan_calls (s : ByteArray) (hS : s.size ≤ 1099511627776) (w : World) : Calls Tryz.prog 162 #[.string s] w fun e w'=>∃ v,e = .returned v ∧ RowKit.Below w.heap.size w w' ∧ ScanX w (scanV s.data.toList) v w':=by
  refine calls_of_wp f16_is sC_is ?_
  have hst:=Stand.start (N:=69) [.string s] w 4096 frH frT (by simp)
  refine wp_seq ((runs_drop scCall _ _ (sr0 idxV szOk (fun p=>openV p.1) s)).stand (oS0 ..) hst fun a1 w1 h1=>?_)
  refine wp_seq ((runs_drop scCall _ _ (sr1 idxV szOk (fun p=>openV p.1) s)).stand (oS1 ..) h1 fun a2 w2 h2=>?_)
  refine wp_seq ((runs_drop scCall _ _ (sr2 idxV szOk (fun p=>openV p.1) s)).stand (oS2 ..) h2 fun a3 w3 h3=>?_)
  have hl : s.data.toList.length = s.size:=rfl
  have I : SInv w s.data.toList s.data.toList [] 0 (fun k=>k < w.heap.size) w none 0 0 a3 w3:=⟨Live.start w,by rw [bsL_data]; exact h3,⟨rfl,.inl ⟨rfl,rfl⟩⟩,fun r hr=>by (cases hr),rfl,by omega,by omega,by simp [catS]⟩
  refine wp_block (wp_loop_rounds (s.size + 1) (scan_rounds (W0:=w) (S0:=s.data.toList) (by omega) (fun act' w' h=>?_) s.size s.data.toList [] 0 _ w none 0 0 a3 w3 (by omega) I))
  obtain ⟨v,y1,y2,y3,y4⟩:=h
  exact (bodyPost_ret y1 y2 ⟨v,rfl,y3,y4⟩ : bodyPost Tryz.prog Tryz.f162 (fun e w'=>∃ v,e = .returned v ∧ RowKit.Below w.heap.size w w' ∧ ScanX w (scanV s.data.toList) v w') .ret act' w')
end Go.Ab
namespace Go.Ab
open Go Go.Proofs
section
variable (po : ByteArray × Unit→Bool) (op : OpG) (s : ByteArray) (a : Option Addr) (n c : Nat) (o i m : Int)
def rX (s : ByteArray) (a : Option Addr) (n c : Nat) (o i m : Int) (x : Two Fr Bool) : St:=mkSt 83 [0,5,6,7,8,10] [.string s,.slice a n c,.int .i64 o,.int .i64 i,.int .i64 m,.bool x.b] [(9,4096,0)] [(4096,74,2)] [.int .i64 x.a.kind,.string x.a.data] fr2 frH frT
end
end Go.Ab
namespace Go.Ab
open Go Go.Proofs
theorem und26' : ∃ td,Tryz.prog.underlying 74 = some td ∧ isAggD td = true:=by
  have:=und26
  cases h : Tryz.prog.underlying 74 with
  | none=>rw [h] at this; cases this
  | some td=>rw [h] at this; exact ⟨td,rfl,by simpa using this⟩
theorem hX (s : ByteArray) (a : Option Addr) (n c : Nat) (o i m : Int) (x : Two Fr Bool) : hget (rX s a n c o i m x).heap 4096 = some (.row 74 ((frCells x.a).map .val)):=by kernel_rfl
end Go.Ab
namespace Go.Ab
open Go
theorem scan_165 (r : List UInt8) : scanV (165 :: r) = if (165 :: r : List UInt8).length < 3 then ([],165 :: r,0) else if 64 < ((165 :: r : List UInt8).getD 2 0).toNat then skipS (scanV r) else if (165 :: r : List UInt8).length < ((165 :: r : List UInt8).getD 2 0).toNat + 5 then ([],165 :: r,0) else
    if (openV (bsL ((165 :: r : List UInt8).take (((165 :: r : List UInt8).getD 2 0).toNat + 5)))).b then consS (openV (bsL ((165 :: r : List UInt8).take (((165 :: r : List UInt8).getD 2 0).toNat + 5)))).a (scanV ((165 :: r : List UInt8).drop (((165 :: r : List UInt8).getD 2 0).toNat + 5))) else skipS (scanV r):=by
  rw [scan_eq]
  show (if (165 : UInt8) = 165 then _ else skipS (scanV r)) = _
  exact if_pos rfl
end Go.Ab
namespace Go.Ab
open Go Go.Proofs
structure FrsAt (w : World) (v : Value) (fs : List Fr) : Prop where
  small : fs.length ≤ 1099511627776
  lies : (∃ c,v = .slice none 0 c ∧ fs = []) ∨ ∃ r c cur,v = .slice (some ⟨r,0,none⟩) fs.length c ∧ w.heap[r]? = some (.cells cur 74 (0,0)) ∧ cur.toList.take (fs.length * 2) = cellsF fs
theorem FrsAt.keep {w w' : World} {v : Value} {fs : List Fr} (h : FrsAt w v fs) (hk : ∀ r,v.ownBlock = some r→w'.heap[r]? = w.heap[r]?) : FrsAt w' v fs:=by
  refine ⟨h.small,?_⟩
  rcases h.lies with h2 | ⟨r,c,cur,rfl,h3,h4⟩
  · exact .inl h2
  · exact .inr ⟨r,c,cur,rfl,by rw [hk r rfl]; exact h3,h4⟩
theorem cellsF_at : ∀ (fs : List Fr) (i : Nat) (hi : i < fs.length),(cellsF fs)[i * 2 + 0]? = some (.int .i64 fs[i].kind) ∧ (cellsF fs)[i * 2 + 1]? = some (.string fs[i].data)
  | [],i,hi=>by simp at hi
  | f :: fs,0,_=>⟨rfl,rfl⟩
  | f :: fs,i + 1,hi=>by
    have ih:=cellsF_at fs i (by simpa using hi)
    have e : cellsF (f :: fs) = .int .i64 f.kind :: .string f.data :: cellsF fs:=rfl
    rw [e,show (i + 1) * 2 + 0 = i * 2 + 0 + 1 + 1 by omega,show (i + 1) * 2 + 1 = i * 2 + 1 + 1 + 1 by omega]
    exact ih
theorem cell_of {w : World} {r : Nat} {cur : Array Value} {fs : List Fr} (h : w.heap[r]? = some (.cells cur 74 (0,0))) (ht : cur.toList.take (fs.length * 2) = cellsF fs) {i : Nat} (hi : i < fs.length) :
    w.cell? ⟨r,i * 2 + 0,none⟩ = some (.int .i64 fs[i].kind) ∧ w.cell? ⟨r,i * 2 + 1,none⟩ = some (.string fs[i].data):=by
  obtain ⟨h1,h2⟩:=cellsF_at fs i hi
  rw [← ht,List.getElem?_take,if_pos (by omega)] at h1 h2
  simp only [World.cell?,h]
  simp only [Array.getElem?_toList] at h1 h2
  exact ⟨by simpa using h1,by simpa using h2⟩
theorem FrsAt.elem {w : World} {v : Value} {fs : List Fr} (h : FrsAt w v fs) {i : Nat} (hi : i < fs.length) : ∃ r c,v = .slice (some ⟨r,0,none⟩) fs.length c ∧ r < w.heap.size ∧ w.cell? ⟨r,i * 2 + 0,none⟩ = some (.int .i64 fs[i].kind) ∧ w.cell? ⟨r,i * 2 + 1,none⟩ = some (.string fs[i].data):=by
  rcases h.lies with ⟨c,_,h2⟩ | ⟨r,c,cur,rfl,h3,h4⟩
  · subst h2; simp at hi
  · exact ⟨r,c,rfl,row_lt h3,cell_of h3 h4 hi⟩
theorem FrsAt.val {w : World} {v : Value} {fs : List Fr} (h : FrsAt w v fs) : ∃ a c,v = .slice a fs.length c:=by
  rcases h.lies with ⟨c,rfl,rfl⟩ | ⟨r,c,cur,rfl,_,_⟩
  · exact ⟨none,c,rfl⟩
  · exact ⟨_,c,rfl⟩
theorem scanX_at {W0 : World} {x : Scd} {v : Value} {w' : World} (h : ScanX W0 x v w') (hs : x.1.length ≤ 1099511627776) : ∃ l,v = .tuple #[l,.string (bsL x.2.1),.int .i64 (x.2.2 : Int)] ∧ FrsAt w' l x.1 ∧ (∀ r,l.ownBlock = some r→W0.heap.size ≤ r ∧ r < w'.heap.size) ∧ w'.ownsRow W0.heap.size 74 2 l x.1.length (cellsF x.1):=by
  obtain ⟨a,c,rfl,hown⟩:=h
  refine ⟨_,rfl,⟨hs,?_⟩,?_,hown⟩
  · rcases hown.2 with ⟨h1,h2⟩ | ⟨g,c',cur,e1,e2,e3,_,_,_,e5⟩
    · have hx : x.1 = []:=List.eq_nil_of_length_eq_zero h2
      rw [h1,hx]
      exact .inl ⟨0,rfl,rfl⟩
    · cases e1
      exact .inr ⟨g,c,cur,rfl,e3,e5⟩
  · intro r hr
    rcases hown.2 with ⟨h1,h2⟩ | ⟨g,c',cur,e1,e2,e3,_,_,_,e5⟩
    · rw [h1] at hr; cases hr
    · cases e1; cases hr; exact ⟨e2,row_lt e3⟩
end Go.Ab
set_option linter.unusedSimpArgs false
namespace Go.Ab
open Go Go.Proofs
instance : Cod Rdg where
  enc r:=.agg (List.toArray (CodL.encl r))
  dec v:=match v with
    | .agg a=>decAll Rdg a.toList
    | _=>none
  law v a h:=by
    split at h
    · rename_i x
      rw [← decAll_law h]
    · cases h
structure HrOps where
  rj : CX→CX
  rd : Fr × Unit→Two Rdg Bool
  fr : Rdg × Int × Unit→Bool
  od : CX→Fr × Unit→CX
def hrG (F : HrOps) : Gam:=[(163,ySM F.rj),(164,S0 F.rd),(165,S0 F.fr),(166,SM (fun _ _=>true) fun x a=>(unitV,F.od x a))]
noncomputable def hrR : Nat→Code
  | 0=>Tryz.f88.body.getD .skip
  | k + 1=>seqR (hrR k)
noncomputable def hrL (k : Nat) : Code:=seqL (hrR k)
noncomputable def hrO0 : Array Oper:=regO (hrL 0)
noncomputable def hrB : Code:=inB (inB (hrR 4))
noncomputable def hrP5 : Code:=seqL hrB
noncomputable def hrPc : Code:=seqL (seqR hrB)
noncomputable def hrI1 : Code:=inB (seqL (seqR (seqR hrB)))
noncomputable def hrP18 : Code:=seqR (seqR (seqR hrB))
noncomputable def hrO6 : Array Oper:=regO (seqL hrI1)
noncomputable def hrP7 : Code:=seqL (seqR hrI1)
noncomputable def hrK1 : Code:=seqL (inB (seqR (seqR hrI1)))
noncomputable def hrKc : Code:=seqR (inB (seqR (seqR hrI1)))
theorem hr_is : Tryz.f88.body = some (.seq (.region 0 hrO0 false) (.seq (hrL 1) (.seq (hrL 2) (.seq (hrL 3) (hrR 4))))):=by kernel_rfl
theorem hrB_is : hrR 4 = .block 0 (.loop (.seq hrP5 (.seq hrPc (.seq (.block 1 (.seq (.region 6 hrO6 false) (.seq hrP7 (.block 2 (.seq hrK1 hrKc))))) hrP18)))):=by kernel_rfl
theorem f88_is : Tryz.prog.funcs[88]? = some Tryz.f88:=by kernel_rfl
theorem f162_on : (Tryz.f162.body.isSome && !Tryz.f162.name == "runtime.NumGoroutine") = true := by kernel_rfl
def cScanH : Call:={ callee:=.value (.func 162),args:=#[.tmp 20],argTypes:=#[9] }
theorem hr0_9 : sigOf hrO0 9 = some (.call cScanH,some 21,true):=by kernel_rfl
theorem hr0_n : List.range hrO0.size = (List.range (hrO0.toList.take 9).length).map (0 + ·) ++ (9 :: ((List.range (hrO0.toList.drop 10).length).map (10 + ·) ++ [])):=by kernel_rfl
theorem hr6_0 : sigOf hrO6 0 = some (.indexAddr 96 (.tmp 36) (.tmp 38),some 40,true):=by kernel_rfl
theorem hr6_1 : sigOf hrO6 1 = some (.load 74 (.tmp 40),some 41,true):=by kernel_rfl
theorem hr6_n : List.range hrO6.size = 0 :: 1 :: ((List.range (hrO6.toList.drop 2).length).map (2 + ·) ++ []):=by kernel_rfl
def hH (x : CX) : Hp:=[(0,.row 145 (stpRow x.1)),(1,.row 44 (crfRow x.2.1)),(2,.obj (rdsObj x.2.2))]
def hS (x : CX) (tm : List (Nat × AV)) : St:=gSt 79 ((0,.ptr 0 0) :: tm) (hH x) 4096
def hN1 : Nat:=4096 + 1 * 2 ^ 180
def hS1 (x : CX) (tm : List (Nat × AV)) : St:=gSt 79 ((0,.ptr 0 0) :: tm) (hH x) hN1
def hF (x : CX) (k : Int) (d : ByteArray) (tm : List (Nat × AV)) : St:=gSt 79 ((0,.ptr 0 0) :: (8,.ptr 4096 0) :: tm) [(0,.row 145 (stpRow x.1)),(1,.row 44 (crfRow x.2.1)),(2,.obj (rdsObj x.2.2)),(4096,.row 74 [.val (.int .i64 k),.val (.string d)])] hN1
noncomputable abbrev hrEnd (ks ts : List Nat) : St→List Foot→Option (Bool × St):=endOps ks (restN 79 ts)
noncomputable abbrev hrRun (F : HrOps) (c : Code) (s : St) (ts : List Nat) : Option (Ex × St):=gRun Tryz.prog { gam:=hrG F } 79 c s [0,1,2] ts
noncomputable abbrev hrRun4 (F : HrOps) (c : Code) (s : St) (ts : List Nat) : Option (Ex × St):=gRun Tryz.prog { gam:=hrG F } 79 c s [0,1,2,4096] ts
noncomputable abbrev hrCut (F : HrOps) (c : Code) (s : St) (ts : List Nat) : Option (Ex × St):=gCut Tryz.prog { gam:=hrG F } 79 c s hN1 [0,1,2] ts
def hrT (a : Option Addr) (n c : Nat) (i : Int) : List (Nat × AV):=[(36,.val (.slice a n c)),(37,.val (.int .i64 n)),(38,.val (.int .i64 i))]
def putR1 (x : CX) (r : Rdg) : CX:=(x.1,x.2.1,{ x.2.2 with p1:=true,r1:=r })
def putR2 (x : CX) (r : Rdg) : CX:=(x.1,x.2.1,{ x.2.2 with p2:=true,r2:=r })
def putR3 (x : CX) (r : Rdg) : CX:=(x.1,x.2.1,{ x.2.2 with p3:=true,r3:=r })
def sensX (F : HrOps) (x : CX) (f : Fr) (p : CX) : CX:=bif (F.rd (f,())).b then bif F.fr ((F.rd (f,())).a,x.1.tk,()) then p else F.rj x else F.rj x
def hearF (F : HrOps) (x : CX) (f : Fr) : CX :=
  bif f.kind == 1 then sensX F x f (putR1 x (F.rd (f,())).a) else bif f.kind == 2 then sensX F x f (putR2 x (F.rd (f,())).a) else bif f.kind == 3 then sensX F x f (putR3 x (F.rd (f,())).a) else
  bif f.kind == 16 then F.od x (f,()) else F.rj x
def sensT (F : HrOps) (x : CX) (f : Fr) (p : CX) (tm : List (Nat × AV)) : Option (Ex × St):=bif (F.rd (f,())).b then bif F.fr ((F.rd (f,())).a,x.1.tk,()) then some (.normal,hS1 p tm) else some (.normal,hS1 (F.rj x) tm) else some (.normal,hS1 (F.rj x) tm)
section
variable (F : HrOps) (x : CX) (b l d : ByteArray) (a : Option Addr) (ad : Addr) (n c : Nat) (o i k : Int) (t : Bool)
theorem hr_q0 : opsRun Tryz.prog (callN Tryz.prog { gam:=hrG F } 4 (Bool × St)) (isSum (hrG F)) 79 hrO0 (hrO0.toList.take 9) (startS 79 [.ptr 0 0,.val (.string b)] (stpX x)) [] (hrEnd [0,1,2] [0,20]) = bif decide (((x.2.1.left.size + b.size : Nat) : Int) > 9223372036854775807) then none else some (true,hS x [(20,.val (.string (x.2.1.left ++ b)))]):=by kernel_rfl
theorem hr_q0b (v : ByteArray) : opsRun Tryz.prog (callN Tryz.prog { gam:=hrG F } 4 (Bool × St)) (isSum (hrG F)) 79 hrO0 (hrO0.toList.drop 10) { hS x [(20,.val (.string v))] with tmps:=(hS x [(20,.val (.string v))]).tmps.set 21 (.val (.tuple #[.slice a n c,.string l,.int .i64 o])) } [] (hrEnd [0,1,2] [0,4,5,6]) = some (true,hS x [(4,.val (.slice a n c)),(5,.val (.string l)),(6,.val (.int .i64 o))]):=by kernel_rfl
theorem hr_q1 : hrRun F (hrL 1) (hS x [(4,.val (.slice a n c)),(5,.val (.string l)),(6,.val (.int .i64 o))]) [0,4,6] = some (.normal,hS (x.1,{ x.2.1 with left:=l },x.2.2) [(4,.val (.slice a n c)),(6,.val (.int .i64 o))]):=by kernel_rfl
theorem hr_q2 : hrRun F (hrL 2) (hS x [(4,.val (.slice a n c)),(6,.val (.int .i64 o))]) [0,4] = bif decide (o > 0) then some (.normal,hS (F.rj x) [(4,.val (.slice a n c))]) else some (.normal,hS x [(4,.val (.slice a n c))]):=by kernel_rfl
theorem hr_q3 : hrRun F (hrL 3) (hS x [(4,.val (.slice a n c))]) [0,36,37,38] = some (.normal,hS x (hrT a n c 0)):=by kernel_rfl
theorem hr_q5 : hrRun F hrP5 (hS x (hrT a n c i)) [0,36,37,38,39] = some (.normal,hS x (hrT a n c i ++ [(39,.val (.bool (decide (i < n))))])):=by kernel_rfl
theorem hr_qc : hrRun F hrPc (hS x (hrT a n c i ++ [(39,.val (.bool t))])) [0,36,37,38] = bif t then some (.normal,hS x (hrT a n c i)) else some (.exit 0,hS x (hrT a n c i)):=by kernel_rfl
theorem hr_q6 : opsRun Tryz.prog (callN Tryz.prog { gam:=hrG F } 4 (Bool × St)) (isSum (hrG F)) 79 hrO6 (hrO6.toList.drop 2) { hS x (hrT a n c i) with tmps:=((hS x (hrT a n c i)).tmps.set 40 (.val (.pointer (some ad)))).set 41 (.val (.agg (List.toArray [.int .i64 k,.string d]))) } [] (hrEnd [0,1,2,4096] [0,8,36,37,38]) = some (true,hF x k d (hrT a n c i)):=by kernel_rfl
theorem hr_q7 : hrRun4 F hrP7 (hF x k d (hrT a n c i)) [0,8,36,37,38,43] = some (.normal,hF x k d (hrT a n c i ++ [(43,.val (.int .i64 k))])):=by kernel_rfl
theorem hr_k1 : hrRun4 F hrK1 (hF x k d (hrT a n c i ++ [(43,.val (.int .i64 k))])) [0,8,36,37,38,43,46] = bif k == 1 then some (.normal,hF x k d (hrT a n c i ++ [(43,.val (.int .i64 k)),(46,.val (.bool true))])) else bif k == 2 then some (.normal,hF x k d (hrT a n c i ++ [(43,.val (.int .i64 k)),(46,.val (.bool true))])) else some (.normal,hF x k d (hrT a n c i ++ [(43,.val (.int .i64 k)),(46,.val (.bool (k == 3)))])):=by kernel_rfl
theorem hr_kn : hrCut F hrKc (hF x k d (hrT a n c i ++ [(43,.val (.int .i64 k)),(46,.val (.bool false))])) [0,36,37,38] = bif k == 16 then some (.normal,hS1 (F.od x (⟨k,d⟩,())) (hrT a n c i)) else some (.normal,hS1 (F.rj x) (hrT a n c i)):=by kernel_rfl
theorem hr_ky1 : hrCut F hrKc (hF x 1 d (hrT a n c i ++ [(43,.val (.int .i64 1)),(46,.val (.bool true))])) [0,36,37,38] = sensT F x ⟨1,d⟩ (putR1 x (F.rd (⟨1,d⟩,())).a) (hrT a n c i):=by kernel_rfl
theorem hr_ky2 : hrCut F hrKc (hF x 2 d (hrT a n c i ++ [(43,.val (.int .i64 2)),(46,.val (.bool true))])) [0,36,37,38] = sensT F x ⟨2,d⟩ (putR2 x (F.rd (⟨2,d⟩,())).a) (hrT a n c i):=by kernel_rfl
theorem hr_ky3 : hrCut F hrKc (hF x 3 d (hrT a n c i ++ [(43,.val (.int .i64 3)),(46,.val (.bool true))])) [0,36,37,38] = sensT F x ⟨3,d⟩ (putR3 x (F.rd (⟨3,d⟩,())).a) (hrT a n c i):=by kernel_rfl
theorem hr_q18 : hrRun F hrP18 (hS x (hrT a n c i)) [0,36,37,38] = some (.normal,hS x (hrT a n c (IntKind.i64.wrap (i + 1)))):=by kernel_rfl
theorem hr_okc : okClean hN1 (hS1 x (hrT a n c i)) = true:=by kernel_rfl
theorem hr_okc0 : okClean 4096 (hS1 x (hrT a n c i)) = true:=by kernel_rfl
end
end Go.Ab
set_option linter.unusedSimpArgs false
namespace Go.Ab
open Go Go.Proofs
section
variable {F : HrOps} (hG : GamOk Tryz.prog (hrG F))
include hG
theorem hr_call : ∀ β,CallOk Tryz.prog (callN Tryz.prog { gam:=hrG F } 4 β):=callN_ok (E:={ gam:=hrG F }) hG 4
theorem hr_frame (x : CX) (k : Int) (d : ByteArray) (a : Option Addr) (n c : Nat) (i : Int) : RunsTo Tryz.prog 79 (.seq hrP7 (.block 2 (.seq hrK1 hrKc))) (hF x k d (hrT a n c i)) .normal (hS1 (hearF F x ⟨k,d⟩) (hrT a n c i)):=by
  have h7:=gRun_runs (E:={ gam:=hrG F }) hG (hr_q7 F x d a n c i k)
  have hk:=hr_k1 F x d a n c i k
  have hsens : ∀ (p : CX),(sensT F x ⟨k,d⟩ p (hrT a n c i)) = some (.normal,hS1 (sensX F x ⟨k,d⟩ p) (hrT a n c i)):=by
    intro p
    unfold sensT sensX
    cases (F.rd (⟨k,d⟩,())).b
    · rfl
    · cases F.fr ((F.rd (⟨k,d⟩,())).a,x.1.tk,()) <;> rfl
  by_cases h1 : k = 1
  · subst h1
    have e : hearF F x ⟨1,d⟩ = sensX F x ⟨1,d⟩ (putR1 x (F.rd (⟨1,d⟩,())).a):=rfl
    rw [e]
    exact .seq h7 (.block (.seq (gRun_runs (E:={ gam:=hrG F }) hG hk) (gCut_runs (E:={ gam:=hrG F }) hG ((hr_ky1 F x d a n c i).trans (hsens _)) rfl (hr_okc ..) rfl)) (.inl rfl))
  by_cases h2 : k = 2
  · subst h2
    have e : hearF F x ⟨2,d⟩ = sensX F x ⟨2,d⟩ (putR2 x (F.rd (⟨2,d⟩,())).a):=rfl
    rw [e]
    exact .seq h7 (.block (.seq (gRun_runs (E:={ gam:=hrG F }) hG hk) (gCut_runs (E:={ gam:=hrG F }) hG ((hr_ky2 F x d a n c i).trans (hsens _)) rfl (hr_okc ..) rfl)) (.inl rfl))
  by_cases h3 : k = 3
  · subst h3
    have e : hearF F x ⟨3,d⟩ = sensX F x ⟨3,d⟩ (putR3 x (F.rd (⟨3,d⟩,())).a):=rfl
    rw [e]
    exact .seq h7 (.block (.seq (gRun_runs (E:={ gam:=hrG F }) hG hk) (gCut_runs (E:={ gam:=hrG F }) hG ((hr_ky3 F x d a n c i).trans (hsens _)) rfl (hr_okc ..) rfl)) (.inl rfl))
  have b1 : (k == 1) = false:=beq_eq_false_iff_ne.2 h1
  have b2 : (k == 2) = false:=beq_eq_false_iff_ne.2 h2
  have b3 : (k == 3) = false:=beq_eq_false_iff_ne.2 h3
  rw [b1,b2,b3] at hk
  simp only [cond_false] at hk
  have hn:=hr_kn F x d a n c i k
  have e : hearF F x ⟨k,d⟩ = bif k == 16 then F.od x (⟨k,d⟩,()) else F.rj x:=by
    unfold hearF
    dsimp only
    rw [b1,b2,b3]
    rfl
  rw [e]
  refine .seq h7 (.block (.seq (gRun_runs (E:={ gam:=hrG F }) hG hk) (gCut_runs (E:={ gam:=hrG F }) hG (hn.trans ?_) rfl (hr_okc ..) rfl)) (.inl rfl))
  cases k == 16 <;> rfl
omit hG in
theorem run_frame {w : World} {ad : Addr} {k : Int} {d : ByteArray} (h0 : w.cell? (ad.add 0) = some (.int .i64 k)) (h1 : w.cell? (ad.add 1) = some (.string d)) : (loadVar 74 ad).run Tryz.prog w = .ok (.agg (List.toArray [.int .i64 k,.string d])) w:=by
  obtain ⟨ti,hti,hs,_,_⟩:=info26
  obtain ⟨td,htd,hag⟩:=und26'
  unfold loadVar
  rw [Sem.run_bind,run_isAgg htd w,hag]
  simp only [Result.andThen_ok,if_true,Sem.run_bind,run_sizeOf hti w]
  have:=run_loadFrom (P:=Tryz.prog) (w:=w) (a:=ad) ti.size 0 [.int .i64 k,.string d] #[] (by rw [hs]; rfl) fun j c hj=>by
    match j,hj with
    | 0,hj=>cases hj; exact h0
    | 1,hj=>cases hj; exact h1
    | j + 2,hj=>simp at hj
  unfold loadCells
  rw [this]
  simp
theorem hr_rounds {w1 : World} {own1 : Nat→Prop} {σ1 : Nat→Option Nat} {hi1 : Nat} {fs : List Fr} {a : Option Addr} {c : Nat} (hat : FrsAt w1 (.slice a fs.length c) fs) (hno : ∀ r,(Value.slice a fs.length c).ownBlock = some r→r < w1.heap.size ∧ ¬ own1 r)
    (hnone : ∀ b,4096 ≤ b→b < hi1→σ1 b = none) (hhi : hi1 = 4096 + 2 ^ 200) {Q : Exit→Act→World→Prop} :
    ∀ (m i : Nat) (x : CX) (act : Act) (w : World),i + m = fs.length→(∀ a' w',StFits 79 w1 own1 σ1 4096 hi1 (hS ((fs.drop i).foldl (hearF F) x) (hrT a fs.length c fs.length)) a' w'→Q (.exit 0) a' w') →
      StFits 79 w1 own1 σ1 4096 hi1 (hS x (hrT a fs.length c i)) act w→Code.rounds Tryz.prog (.seq hrP5 (.seq hrPc (.seq (.block 1 (.seq (.region 6 hrO6 false) (.seq hrP7 (.block 2 (.seq hrK1 hrKc))))) hrP18))) Q (m + 1) act w:=by
  intro m
  induction m with
  | zero =>
    intro i x act w hi hQ hst
    have hi' : i = fs.length:=by omega
    rw [rounds_succ]
    refine wp_seq (gRun_runs (E:={ gam:=hrG F }) hG (hr_q5 F x a fs.length c i) w1 own1 σ1 4096 hi1 act w hst _ fun a1 w1' h1=>?_)
    have hb : decide ((i : Int) < (fs.length : Int)) = false:=decide_eq_false (by omega)
    rw [hb] at h1
    refine wp_seq (gRun_runs (E:={ gam:=hrG F }) hG (hr_qc F x a fs.length c i false) w1 own1 σ1 4096 hi1 a1 w1' h1 _ fun a2 w2 h2=>?_)
    refine hQ a2 w2 ?_
    rw [List.drop_of_length_le (by omega),← hi']
    rw [hi'] at h2 ⊢
    exact h2
  | succ m ih =>
    intro i x act w hi hQ hst
    rw [rounds_succ]
    refine wp_seq (gRun_runs (E:={ gam:=hrG F }) hG (hr_q5 F x a fs.length c i) w1 own1 σ1 4096 hi1 act w hst _ fun a1 w1' h1=>?_)
    have hlt : i < fs.length:=by omega
    have hb : decide ((i : Int) < (fs.length : Int)) = true:=decide_eq_true (by omega)
    rw [hb] at h1
    refine wp_seq (gRun_runs (E:={ gam:=hrG F }) hG (hr_qc F x a fs.length c i true) w1 own1 σ1 4096 hi1 a1 w1' h1 _ fun a2 w2 h2=>?_)
    refine wp_seq (wp_block (wp_seq (wp_region ?_)))
    rw [hr6_n]
    have hat2 : FrsAt w2 (.slice a fs.length c) fs:=hat.keep fun r hr=>h2.far (hno r hr).1 (hno r hr).2
    obtain ⟨r,c',hv,_,hc0,hc1⟩:=hat2.elem hlt
    cases hv
    obtain ⟨ti,hti,hs,_,_⟩:=info26
    obtain ⟨u96,hu96⟩ : ∃ u,Tryz.prog.underlying 96 = some u:=⟨_,v33⟩
    refine index_fit hr6_0 (by omega) (by kernel_rfl) v33 hti h2 (b:=⟨r,0,none⟩) (len:=fs.length) (cap:=c) (i:=i) (ik:=.i64) (h2.eval (t:=36) rfl) (h2.eval (t:=38) rfl) hlt _ fun a3 h3=>?_
    have ead : (⟨r,0,none⟩ : Addr).add (i * ti.size) = ⟨r,i * 2,none⟩:=by rw [hs,addr_add,Nat.zero_add]
    rw [ead] at h3
    refine load_fit hr6_1 (by omega) (by rw [List.length_set]; kernel_rfl) h3 (b:=⟨r,i * 2,none⟩) (h3.eval (t:=40) (by kernel_rfl)) (run_frame (k:=fs[i].kind) (d:=fs[i].data) hc0 hc1) _ fun a4 h4=>?_
    refine ops_fit (hr_call hG _) [0,1,2,4096] _ (hr_q6 F x fs[i].data (some ⟨r,0,none⟩) ⟨r,i * 2,none⟩ fs.length c i fs[i].kind) (fun _ _ hj=>drop_at hj) h4 [] fun a5 w5 h5=>?_
    change Code.wp Tryz.prog (.seq hrP7 (.block 2 (.seq hrK1 hrKc))) _ a5 w5
    refine hr_frame hG x fs[i].kind fs[i].data (some ⟨r,0,none⟩) fs.length c i w1 own1 σ1 4096 hi1 a5 w5 h5 _ fun a6 w6 h6=>?_
    simp only [Ex.to,Exit.inBlock]
    have h7:=h6.lower hnone (hr_okc0 ..) (by rw [hhi]; rfl)
    have h8 : StFits 79 w1 own1 σ1 4096 hi1 (hS (hearF F x fs[i]) (hrT (some ⟨r,0,none⟩) fs.length c i)) a6 w6:=h7
    refine gRun_runs (E:={ gam:=hrG F }) hG (hr_q18 F _ (some ⟨r,0,none⟩) fs.length c i) w1 own1 σ1 4096 hi1 a6 w6 h8 _ fun a7 w7 h9=>?_
    have hw : IntKind.i64.wrap ((i : Int) + 1) = ((i + 1 : Nat) : Int):=by have:=hat.small; rw [wrapM]; omega
    rw [hw] at h9
    refine ih (i + 1) _ a7 w7 (by omega) (fun a' w' h'=>hQ a' w' ?_) h9
    rw [List.drop_eq_getElem_cons hlt,List.foldl_cons]
    exact h'
end
end Go.Ab
set_option linter.unusedSimpArgs false
namespace Go.Ab
open Go Go.Proofs
theorem f88_N : Tryz.f88.ntmps = 79:=by kernel_rfl
theorem hr_weak (x : CX) (a : Option Addr) (n c : Nat) (i : Int) : dropSt [0,1,2] (restN 79 [0]) (hS x (hrT a n c i)) = hS x []:=by kernel_rfl
theorem hr_res (x : CX) : resA Tryz.prog (hS x []) Tryz.f88.results.toList = some []:=by kernel_rfl
theorem scan_count : ∀ (n : Nat) (l : List UInt8),l.length ≤ n→(scanV l).1.length ≤ l.length:=by
  intro n
  induction n with
  | zero =>
    intro l h
    have : l = []:=List.eq_nil_of_length_eq_zero (by omega)
    subst this
    rw [scan_nil]
    exact Nat.le_refl _
  | succ n ih =>
    intro l h
    cases l with
    | nil=>rw [scan_nil]; exact Nat.le_refl _
    | cons b r =>
      have hr : r.length ≤ n:=by simpa using h
      have hskip : ∀ x : Scd,(skipS x).1 = x.1:=fun _=>rfl
      by_cases hb : b = 165
      · subst hb
        rw [scan_165]
        have h1:=ih r hr
        split
        · simp
        · split
          · rw [hskip,List.length_cons]; omega
          · split
            · simp
            · split
              · rename_i h3 _ _ _
                have hl : ((165 :: r : List UInt8).drop (((165 :: r : List UInt8).getD 2 0).toNat + 5)).length ≤ n:=by rw [List.length_drop]; simp only [List.length_cons] at h3 ⊢; omega
                have h2:=ih _ hl
                unfold consS
                rw [List.length_cons]
                rw [List.length_drop] at h2
                simp only [List.length_cons] at h3 h2 ⊢
                omega
              · rw [hskip,List.length_cons]; omega
      · rw [scan_other hb,hskip,List.length_cons]
        have:=ih r hr
        omega
def hearPre (x : CX) (a : ByteArray × Unit) : Bool:=decide (x.2.1.left.size + a.1.size ≤ 1099511627776)
def hearHead (F : HrOps) (x : CX) (s : Scd) : CX:=bif decide ((s.2.2 : Int) > 0) then F.rj (x.1,{ x.2.1 with left:=bsL s.2.1 },x.2.2) else (x.1,{ x.2.1 with left:=bsL s.2.1 },x.2.2)
def hearS (F : HrOps) (x : CX) (s : Scd) : CX:=s.1.foldl (hearF F) (hearHead F x s)
def hearO (F : HrOps) (x : CX) (a : ByteArray × Unit) : CX:=hearS F x (scanV (x.2.1.left ++ a.1).data.toList)
section
variable {F : HrOps} (hG : GamOk Tryz.prog (hrG F))
include hG
theorem hr_all (x : CX) (b : ByteArray) (hs : x.2.1.left.size + b.size ≤ 1099511627776) :
    RunsTo Tryz.prog 79 (.seq (.region 0 hrO0 false) (.seq (hrL 1) (.seq (hrL 2) (.seq (hrL 3) (hrR 4))))) (startS 79 [.ptr 0 0,.val (.string b)] (stpX x)) .normal (hS (hearO F x (b,())) []):=by
  intro w0 own σ0 lo0 hi0 act w hst Q hQ
  have hq0:=hr_q0 F x b
  rw [decide_eq_false (by omega),cond_false] at hq0
  have hsz : (x.2.1.left ++ b).size = x.2.1.left.size + b.size:=ByteArray.size_append
  refine wp_seq (wp_region ?_)
  rw [hr0_n]
  refine ops_fit (hr_call hG _) [0,1,2] _ hq0 (fun _ _ hj=>take_at hj) hst _ fun a1 w1 h1=>?_
  have harg : cScanH.args.map a1.eval = #[.string (x.2.1.left ++ b)]:=by
    have : a1.eval (.tmp 20) = .string (x.2.1.left ++ b):=h1.eval (t:=20) rfl
    simp [cScanH,this]
  refine call_else hr0_9 (by omega) (by kernel_rfl) h1 rfl f16_is f162_on harg (scan_calls (x.2.1.left ++ b) (by omega) w1) _ fun v a2 w2 own1 σ1 hX hB hbd hnone h2 back=>?_
  generalize hsc : scanV (x.2.1.left ++ b).data.toList = sc at hX
  have hlen : sc.1.length ≤ 1099511627776:=by
    have h3:=scan_count _ (x.2.1.left ++ b).data.toList (Nat.le_refl _)
    have h4 : (x.2.1.left ++ b).data.toList.length = (x.2.1.left ++ b).size:=rfl
    rw [hsc] at h3
    omega
  obtain ⟨v',rfl,hat,hown,_⟩:=scanX_at hX hlen
  obtain ⟨ad,c,rfl⟩:=hat.val
  refine ops_fit (hr_call hG _) [0,1,2] _ (hr_q0b F x (bsL sc.2.1) ad sc.1.length c sc.2.2 (x.2.1.left ++ b)) (fun _ _ hj=>drop_at hj) h2 [] fun a3 w3 h3=>?_
  change Code.wp Tryz.prog (.seq (hrL 1) (.seq (hrL 2) (.seq (hrL 3) (hrR 4)))) _ a3 w3
  refine wp_seq (gRun_runs (E:={ gam:=hrG F }) hG (hr_q1 F x (bsL sc.2.1) ad sc.1.length c sc.2.2) _ _ _ _ _ a3 w3 h3 _ fun a4 w4 h4=>?_)
  have e2 : hrRun F (hrL 2) (hS (x.1,{ x.2.1 with left:=bsL sc.2.1 },x.2.2) [(4,.val (.slice ad sc.1.length c)),(6,.val (.int .i64 sc.2.2))]) [0,4] = some (.normal,hS (hearHead F x sc) [(4,.val (.slice ad sc.1.length c))]):=by
    rw [hr_q2]
    unfold hearHead
    cases decide ((sc.2.2 : Int) > 0) <;> rfl
  refine wp_seq (gRun_runs (E:={ gam:=hrG F }) hG e2 _ _ _ _ _ a4 w4 h4 _ fun a5 w5 h5=>?_)
  refine wp_seq (gRun_runs (E:={ gam:=hrG F }) hG (hr_q3 F (hearHead F x sc) ad sc.1.length c) _ _ _ _ _ a5 w5 h5 _ fun a6 w6 h6=>?_)
  rw [hrB_is]
  refine wp_block (wp_loop_rounds (sc.1.length + 1) (hr_rounds hG hat (fun r hr=>?_) hnone rfl sc.1.length 0 (hearHead F x sc) a6 w6 (by omega) (fun a7 w7 h7=>?_) h6))
  · obtain ⟨g1,g2⟩:=hown r hr
    exact ⟨g2,fun ho=>by have:=hbd r ho; omega⟩
  · simp only [Ex.to,Exit.inBlock,if_true]
    refine hQ a7 w7 (back _ _ _ ?_)
    rw [List.drop_zero] at h7
    have e : hearO F x (b,()) = sc.1.foldl (hearF F) (hearHead F x sc):=by unfold hearO hearS; dsimp only; rw [hsc]
    rw [e]
    refine h7.weak ?_ (Nat.le_refl _) (Nat.le_refl _)
    rw [← hr_weak _ ad sc.1.length c sc.1.length]
    exact dropSt_wk _ _ _
theorem okHear : SumOk Tryz.prog 88 (SM hearPre fun x a=>(unitV,hearO F x a)):=by
  intro args cs r cs' hs
  obtain ⟨x,⟨b,_⟩,hp,rfl,rfl,rfl,rfl⟩:=SM_sel hs
  refine sum_runs f88_is hr_is f88_N (by show 2 ≤ 79; omega) (by simp [stpX,stpBlk]) rfl rfl rfl (.inl rfl) (hr_all hG x b (of_decide_eq_true hp)) (hr_res ..) rfl rfl (fun b' c hb=>?_) rfl rfl
  match b',hb with
  | 0,hb=>cases hb; rfl
  | 1,hb=>cases hb; rfl
  | 2,hb=>cases hb; rfl
  | n + 3,hb=>simp [stpX,stpBlk] at hb
end
end Go.Ab
set_option linter.unusedSimpArgs false
namespace Go.Ab
open Go Go.Proofs
structure Odr where
  seq : Int
  code : Int
  orb : Orb
instance : CodL Odr:=codIso (β:=Int × Int × Orb) (fun v=>(v.seq,v.code,v.orb)) (fun p=>⟨p.1,p.2.1,p.2.2⟩) fun _=>rfl
instance : Cod Odr where
  enc r:=.agg (List.toArray (CodL.encl r))
  dec v:=match v with
    | .agg a=>decAll Odr a.toList
    | _=>none
  law v a h:=by
    split at h
    · rename_i x
      rw [← decAll_law h]
    · cases h
def fresh1 (r : Rdg) (now : Int) : Bool:=decide (IntKind.u64.wrap (IntKind.u64.wrap now - IntKind.u64.wrap r.tk) ≤ 500)
theorem fresh165 (r : Rdg) (now : Int) : fnSum Tryz.prog { gam:=[] } [] 20 165 [.val (Cod.enc r),.val (.int .i64 now)] [] = bif decide (r.tk ≤ now) then some (.val (.bool (fresh1 r now)),[]) else some (.val (.bool false),[]):=by kernel_rfl
def freshV (p : Rdg × Int × Unit) : Bool:=bif decide (p.1.tk ≤ p.2.1) then fresh1 p.1 p.2.1 else false
theorem okFresh : SumOk Tryz.prog 165 (S0 freshV):=S0_ok (E:={ gam:=[] }) GamOk.nil 20 fun a=>by
  refine (fresh165 a.1 a.2.1).trans ?_
  unfold freshV
  cases decide (a.1.tk ≤ a.2.1) <;> rfl
def ackX (x : CX) (o : Two Odr Int) : CX:=(x.1,{ x.2.1 with ack:=o.a.seq,err:=o.b },x.2.2)
def sayX (x : CX) (n : Int) : CX:=({ x.1 with seen:={ x.1.seen with order:=n } },x.2)
def orbX (x : CX) (o : Orb) : CX:=(x.1,{ x.2.1 with orb:=o,placed:=true },x.2.2)
def clrX (x : CX) : CX:=(x.1,{ x.2.1 with rej:=0,plan:={ x.2.1.plan with faults:=0 } },x.2.2)
def ordE (x : CX) : Option (AV × List Con):=some (unit0,stpX x)
def gamOd (rj : CX→CX) (ro : Fr × Unit→Two Odr Int) : Gam:=[(163,ySM rj),(211,S0 ro)]
theorem order166 (rj : CX→CX) (ro : Fr × Unit→Two Odr Int) (x : CX) (f : Fr) : fnSum Tryz.prog { gam:=gamOd rj ro } [] 20 166 [.ptr 0 0,.val (Cod.enc f)] (stpX x) =
    bif (ro (f,())).b != 0 then ordE (rj (ackX x (ro (f,())))) else bif (ro (f,())).a.code == 1 then ordE (sayX (ackX x (ro (f,()))) (ro (f,())).a.code) else bif (ro (f,())).a.code == 2 then ordE (sayX (ackX x (ro (f,()))) (ro (f,())).a.code) else
    bif (ro (f,())).a.code == 3 then ordE (orbX (ackX x (ro (f,()))) (ro (f,())).a.orb) else bif (ro (f,())).a.code == 4 then ordE (clrX (ackX x (ro (f,())))) else ordE (ackX x (ro (f,()))):=by kernel_rfl
def orderO (rj : CX→CX) (x : CX) (o : Two Odr Int) : CX :=
  bif o.b != 0 then rj (ackX x o) else bif o.a.code == 1 then sayX (ackX x o) o.a.code else bif o.a.code == 2 then sayX (ackX x o) o.a.code else bif o.a.code == 3 then orbX (ackX x o) o.a.orb else bif o.a.code == 4 then clrX (ackX x o) else ackX x o
theorem ordE_cond (b : Bool) (x y : CX) : (bif b then ordE x else ordE y) = ordE (bif b then x else y):=by cases b <;> rfl
theorem okOrder {rj : CX→CX} {ro : Fr × Unit→Two Odr Int} (hG : GamOk Tryz.prog (gamOd rj ro)) : SumOk Tryz.prog 166 (SM (fun _ _=>true) fun x (a : Fr × Unit)=>(unitV,orderO rj x (ro a))):=SM_ok (E:={ gam:=gamOd rj ro }) hG 20 fun x a _=>by
  obtain ⟨f,_⟩:=a
  refine (order166 rj ro x f).trans ?_
  simp only [ordE_cond]
  rfl
end Go.Ab
