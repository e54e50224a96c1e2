/- A part of the proofs: lemmas, no statement of their own; no condition. -/
import Derived.Test.YtoocjipllmkjcaaGreatGAbM
import Derived.Test.YtoocjipllmkjcaaGreatProg
import Derived.KernelRfl
namespace Go.Ab
open Go
variable {P : Program} {N : Nat}
theorem RunsTo.seq {c d : Code} {s s1 s2 : St} {e : Ex} (h : RunsTo P N c s .normal s1) (k : RunsTo P N d s1 e s2) : RunsTo P N (.seq c d) s e s2 :=
  fun w0 own σ0 lo0 hi0 a w hst Q hQ=>wp_seq (h w0 own σ0 lo0 hi0 a w hst _ fun a' w' hst'=>k w0 own σ0 lo0 hi0 a' w' hst' Q hQ)
theorem RunsTo.seqR {c d : Code} {s s1 : St} (h : RunsTo P N c s .ret s1) : RunsTo P N (.seq c d) s .ret s1 :=
  fun w0 own σ0 lo0 hi0 a w hst _ hQ=>wp_seq (h w0 own σ0 lo0 hi0 a w hst _ fun a' w' hst'=>hQ a' w' hst')
theorem RunsTo.seqX {c d : Code} {s s1 : St} {id : Nat} (h : RunsTo P N c s (.exit id) s1) : RunsTo P N (.seq c d) s (.exit id) s1 :=
  fun w0 own σ0 lo0 hi0 a w hst _ hQ=>wp_seq (h w0 own σ0 lo0 hi0 a w hst _ fun a' w' hst'=>hQ a' w' hst')
def iterF {τ : Type} (F : Nat→τ→τ) : Nat→Nat→τ→τ
  | _,0,z=>z
  | i,k + 1,z=>iterF F (i + 1) k (F i z)
theorem RunsTo.rounds {τ : Type} {c : Code} {id : Nat} (n : Nat) (I : Nat→τ→St) (E : τ→St) (F : Nat→τ→τ) (h : ∀ i z,i < n→RunsTo P N c (I i z) .normal (I (i + 1) (F i z))) (hE : ∀ z,RunsTo P N c (I n z) (.exit id) (E z)) (z : τ) :
    RunsTo P N (.block id (.loop c)) (I 0 z) .normal (E (iterF F 0 n z)):=by
  let ι:={ p : Nat × τ // p.1 ≤ n }
  have hl:=RunsTo.loop (P:=P) (N:=N) (c:=c) (ι:=ι) (fun i=>I i.1.1 i.1.2) (fun i=>n - i.1.1) (fun i=>E (iterF F i.1.1 (n - i.1.1) i.1.2)) (.exit id) (by
    rintro ⟨⟨i,z⟩,hi⟩
    dsimp only at hi ⊢
    by_cases hlt : i < n
    · refine .inl ⟨⟨(i + 1,F i z),by dsimp only; omega⟩,by dsimp only; omega,?_,h i z hlt⟩
      dsimp only
      rw [show n - i = n - (i + 1) + 1 by omega]
      rfl
    · have : i = n:=by omega
      subst this
      refine .inr ⟨?_,by simp⟩
      rw [Nat.sub_self]
      exact hE z) ⟨(0,z),Nat.zero_le n⟩
  exact RunsTo.block hl (.inr rfl)
theorem RunsTo.facts {f : FuncId} {fn : Func} {c : Code} (hfn : P.funcs[f]? = some fn) (hbody : fn.body = some c) {args : List AV} {H : Hp} {lo hi step : Nat} (hle : args.length ≤ fn.ntmps) {s' : St} {e : Ex} (he : e = .normal ∨ e = .ret)
    (h2 : RunsTo P fn.ntmps c ⟨args ++ List.replicate (fn.ntmps - args.length) (.val undef),H,lo,hi,step,[]⟩ e s') {l : List AV} (hl : resA P s' fn.results.toList = some l) (H' : Hp) (hH' : ∀ b c,hget H' b = some c→hget s'.heap b = some c) (hnoav : noAv H' = true) :
    CallFacts P f args H lo hi (pack l) H':=by
  intro σ vals w hinj hbd hvals hH hn
  have hlen:=Rels.length hvals
  refine calls_of_wp hfn hbody ?_
  let own : Nat→Prop:=fun k=>∃ b c,hget H b = some c ∧ σ b = some k
  have hargsR : Rels σ (args ++ List.replicate (fn.ntmps - args.length) (.val undef)) (vals ++ List.replicate (fn.ntmps - args.length) undef):=Rels.append hvals (Rels.undefs σ _)
  have hst : StFits fn.ntmps w own σ lo hi ⟨args ++ List.replicate (fn.ntmps - args.length) (.val undef),H,lo,hi,step,[]⟩
      { tmps:=List.toArray vals ++ Array.replicate (fn.ntmps - (List.toArray vals).size) undef,defers:=[] } w:=by
    refine ⟨σ,stU (args ++ List.replicate (fn.ntmps - args.length) (.val undef)) H,⟨rfl,?_,fun t v hv=>?_,fun b e cs hb=>hH b _ hb,fun b o hb=>hH b _ hb,hinj,hbd,fun b e cs r hb hs=>.inl ⟨b,_,hb,hs⟩,fun b o r hb hs=>.inl ⟨b,_,hb,hs⟩,rfl,rfl,rfl,Nat.le_refl _,fun _ _ _=>rfl⟩,Sub.refl _,hn,Le.refl σ,fun _ h _=>h,Nat.le_refl _,Nat.le_refl _⟩
    · simp; omega
    · simp only [stU,Option.map_eq_some_iff,Con.av.injEq] at hv
      obtain ⟨x,hx,rfl⟩:=hv
      obtain ⟨y,hy,hrel⟩:=Rels.get hargsR hx
      refine ⟨y,?_,hrel⟩
      rw [← hy]
      have : (List.toArray vals ++ Array.replicate (fn.ntmps - (List.toArray vals).size) undef) = List.toArray (vals ++ List.replicate (fn.ntmps - args.length) undef):=by
        apply Array.toList_inj.1; simp [hlen]
      simp only [this,List.getElem?_toArray]
  refine h2 w own σ lo hi _ w hst _ fun a' w' hst'=>?_
  obtain ⟨σ',u',hf',hs',hn',hle',hout',_,_⟩:=hst'
  obtain ⟨v,hv,hrel⟩:=run_results (P:=P) (fn:=fn) hf' hs' hl
  have hnew : ∀ b c,hget H' b = some c→(∃ c',hget H b = some c') ∨ ∀ r,σ' b = some r→w.heap.size ≤ r:=by
    intro b c hb
    have hu : u' (.blk b) = some c:=hs' _ _ (hH' b c hb)
    cases c with
    | av x=>exact absurd hb (noAv_spec hnoav b x)
    | row e2 cs2 =>
      obtain ⟨r,vs2,k1,_⟩:=hf'.row b e2 cs2 hu
      rcases hf'.ownsR b e2 cs2 r hu k1 with ⟨b0,c0,h3,h4⟩ | h3
      · have:=hf'.inj _ _ _ k1 (hle' _ _ h4)
        subst this
        exact .inl ⟨c0,h3⟩
      · exact .inr fun r' hr'=>by rw [k1] at hr'; cases hr'; exact h3
    | obj o2 =>
      obtain ⟨r,_,k1,_⟩:=hf'.obj b o2 hu
      rcases hf'.ownsO b o2 r hu k1 with ⟨b0,c0,h3,h4⟩ | h3
      · have:=hf'.inj _ _ _ k1 (hle' _ _ h4)
        subst this
        exact .inl ⟨c0,h3⟩
      · exact .inr fun r' hr'=>by rw [k1] at hr'; cases hr'; exact h3
  have hHF : HFits σ' H' w':=by
    intro b c hb
    have hu : u' (.blk b) = some c:=hs' _ _ (hH' b c hb)
    cases c with
    | av x=>trivial
    | row e2 cs2=>exact hf'.row b e2 cs2 hu
    | obj o2=>exact hf'.obj b o2 hu
  rcases he with rfl | rfl
  · exact bodyPost_end hv hf'.defers ⟨σ',v,rfl,hle',hout',hrel,hHF,hf'.inj,hf'.bound,hnew,hf'.os,hf'.tape,hf'.output,hf'.grown,fun k hk hk2=>hf'.frame k hk fun ⟨b,c,h3,h4⟩=>hk2 b c h3 h4⟩
  · exact bodyPost_ret hv hf'.defers ⟨σ',v,rfl,hle',hout',hrel,hHF,hf'.inj,hf'.bound,hnew,hf'.os,hf'.tape,hf'.output,hf'.grown,fun k hk hk2=>hf'.frame k hk fun ⟨b,c,h3,h4⟩=>hk2 b c h3 h4⟩
theorem facts_narrow {f : FuncId} {args : List AV} {cs cs' : List Con} {r : AV} {lo hi : Nat} (hn : cs.length ≤ lo) (hl : cs'.length = cs.length) (ha : renL (upTo cs.length) args = some args) (hc : renCs (upTo cs.length) cs = some cs) (hr : renO (upTo cs.length) r = some r) (hc' : renCs (upTo cs.length) cs' = some cs')
    (hf : CallFacts P f args (numH 0 cs) lo hi r (numH 0 cs')) : CallFacts P f args (numH 0 cs) 0 0 r (numH 0 cs'):=by
  intro σ vals w hinj hbd hvals hH _
  let σr : Nat→Option Nat:=fun b=>if b < cs.length then σ b else none
  have hσr : ∀ b r,σr b = some r→b < cs.length ∧ σ b = some r:=by
    intro b r hb
    simp only [σr] at hb
    split at hb
    · rename_i h; exact ⟨h,hb⟩
    · cases hb
  have t1 : Ties (upTo cs.length) σ σr:=by
    intro b b' hb r hr
    obtain ⟨h1,rfl⟩:=upTo_spec hb
    simp only [σr,if_pos h1]; exact hr
  have hHr : HFits σr (numH 0 cs) w:=by
    intro b c hb
    rw [hget_numH,if_pos (Nat.zero_le _),Nat.sub_zero] at hb
    obtain ⟨c0,h1,h2⟩:=renCs_get hc hb
    have hlt:=(List.getElem?_eq_some_iff.1 h1).1
    have hfit:=hH b c0 (by rw [hget_numH,if_pos (Nat.zero_le _),Nat.sub_zero]; exact h1)
    cases c0 with
    | av a=>simp [renC] at h2
    | row e cc =>
      obtain ⟨r0,vs,h5,h6⟩:=hfit
      exact renC_fits t1 h2 h5 (by simp only [σr,if_pos hlt]; exact h5) ⟨r0,vs,h5,h6⟩
    | obj o =>
      obtain ⟨r0,o',h5,h6⟩:=hfit
      exact renC_fits t1 h2 h5 (by simp only [σr,if_pos hlt]; exact h5) ⟨r0,o',h5,h6⟩
  refine Calls.mono (hf σr vals w (fun b b' r h1 h2=>hinj _ _ _ (hσr _ _ h1).2 (hσr _ _ h2).2) (fun b r h1=>hbd _ _ (hσr _ _ h1).2) (renL_rel t1 _ _ _ ha hvals) hHr (fun b h1 h2=>by simp only [σr]; rw [if_neg (by omega)])) fun e w' he=>?_
  obtain ⟨σ',v,rfl,p1,p2,p3,p4,p5,p6,p7,p8,p9,p10,p11,p12⟩:=he
  have t2 : Ties (upTo cs.length) σ' σ:=by
    intro b b' hb r hr
    obtain ⟨h1,rfl⟩:=upTo_spec hb
    cases hs : σ b' with
    | some r0 =>
      have:=p1 b' r0 (by simp only [σr,if_pos h1]; exact hs)
      rw [hr] at this; cases this; rfl
    | none =>
      have:=p2 b' (by simp only [σr,if_pos h1]; exact hs) (.inl (by omega))
      rw [hr] at this; cases this
  refine ⟨σ,v,rfl,Le.refl σ,fun _ h _=>h,renO_rel t2 _ _ _ hr p3,?_,hinj,fun b r hb=>Nat.lt_of_lt_of_le (hbd b r hb) p11,?_,p8,p9,p10,p11,?_⟩
  · intro b c hb
    have hb0:=hb
    rw [hget_numH,if_pos (Nat.zero_le _),Nat.sub_zero] at hb
    obtain ⟨c0,h1,h2⟩:=renCs_get hc' hb
    have hlt2 : b < cs.length:=by rw [← hl]; exact (List.getElem?_eq_some_iff.1 hb).1
    have hfit:=p4 b c0 (by rw [hget_numH,if_pos (Nat.zero_le _),Nat.sub_zero]; exact h1)
    cases c0 with
    | av a=>simp [renC] at h2
    | row e cc =>
      obtain ⟨r0,vs,h5,h6⟩:=hfit
      exact renC_fits t2 h2 h5 (t2 b b (upTo_lt hlt2) r0 h5) ⟨r0,vs,h5,h6⟩
    | obj o =>
      obtain ⟨r0,o',h5,h6⟩:=hfit
      exact renC_fits t2 h2 h5 (t2 b b (upTo_lt hlt2) r0 h5) ⟨r0,o',h5,h6⟩
  · intro b c hb
    rw [hget_numH,if_pos (Nat.zero_le _),Nat.sub_zero] at hb
    have hlt : b < cs.length:=by rw [← hl]; exact (List.getElem?_eq_some_iff.1 hb).1
    exact .inl ⟨cs[b],by rw [hget_numH,if_pos (Nat.zero_le _),Nat.sub_zero]; exact List.getElem?_eq_getElem hlt⟩
  · intro k hk hno
    refine p12 k hk fun b c hb hs=>?_
    rw [hget_numH,if_pos (Nat.zero_le _),Nat.sub_zero] at hb
    obtain ⟨h1,h2⟩:=hσr b k hs
    exact hno b cs[b] (by rw [hget_numH,if_pos (Nat.zero_le _),Nat.sub_zero]; exact List.getElem?_eq_getElem h1) h2
def startS (N : Nat) (args : List AV) (cs : List Con) : St:=⟨args ++ List.replicate (N - args.length) (.val undef),numH 0 cs,4096,4096 + 2 ^ 200,2 ^ 180,[]⟩
def okCs : List Con→Bool
  | []=>true
  | .av _ :: _=>false
  | _ :: r=>okCs r
theorem okCs_spec : ∀ {cs : List Con} (k : Nat),okCs cs = true→noAv (numH k cs) = true
  | [],k,_=>rfl
  | c :: r,k,h=>by
    cases c with
    | av _=>simp [okCs] at h
    | row _ _=>simp only [okCs] at h; simp only [numH,noAv]; exact okCs_spec (k + 1) h
    | obj _=>simp only [okCs] at h; simp only [numH,noAv]; exact okCs_spec (k + 1) h
theorem sum_runs {f : FuncId} {fn : Func} {c : Code} (hfn : P.funcs[f]? = some fn) (hbody : fn.body = some c) (hN : fn.ntmps = N) {args : List AV} {cs cs' : List Con} {r : AV} (hle : args.length ≤ N) (hn : cs.length ≤ 4096) (hl : cs'.length = cs.length) (ha : renL (upTo cs.length) args = some args) (hc : renCs (upTo cs.length) cs = some cs)
    {e : Ex} (he : e = .normal ∨ e = .ret) {s' : St} (h : RunsTo P N c (startS N args cs) e s') {l : List AV} (hres : resA P s' fn.results.toList = some l) (hp : pack l = r) (hr : renO (upTo cs.length) r = some r) (hcs : ∀ b c,cs'[b]? = some c→hget s'.heap b = some c) (hok : okCs cs' = true) (hc' : renCs (upTo cs.length) cs' = some cs') :
    cs.length ≤ cs'.length ∧ CallFacts P f args (numH 0 cs) cs.length cs'.length r (numH 0 cs'):=by
  subst hN
  subst hp
  refine sum_same ⟨hl,facts_narrow hn hl ha hc hr hc' (RunsTo.facts hfn hbody (hi:=4096 + 2 ^ 200) hle he h hres (numH 0 cs') (fun b c hb=>?_) (okCs_spec 0 hok))⟩
  rw [hget_numH,if_pos (Nat.zero_le _),Nat.sub_zero] at hb
  exact hcs b c hb
end Go.Ab
namespace Go.Ab
open Go
def seqL : Code→Code | .seq a _=>a | c=>c
def seqR : Code→Code | .seq _ b=>b | c=>c
def inB : Code→Code | .block _ c=>c | .loop c=>c | c=>c
def ifT : Code→Code | .cond _ a _=>a | c=>c
def ifE : Code→Code | .cond _ _ b=>b | c=>c
def regO : Code→Array Oper | .region _ ops _=>ops | _=>#[]
def sigOf (ops : Array Oper) (k : Nat) : Option (Op × Option Nat × Bool):=(ops[k]?).map fun o=>(o.op,o.dst,o.guard.isNone)
theorem sigOf_some {ops : Array Oper} {k : Nat} {op : Op} {d : Option Nat} (h : sigOf ops k = some (op,d,true)) : ∃ o,ops[k]? = some o ∧ o.op = op ∧ o.dst = d ∧ o.guard = none:=by
  unfold sigOf at h
  cases ho : ops[k]? with
  | none=>rw [ho] at h; cases h
  | some o =>
    rw [ho] at h
    simp only [Option.map_some,Option.some.injEq,Prod.mk.injEq,Option.isNone_iff_eq_none] at h
    exact ⟨o,rfl,h.1,h.2.1,h.2.2⟩
theorem run_loadScalar {P : Program} {w : World} {t : TypeId} {d : TypeDesc} {a : Addr} {v : Value} (hd : P.underlying t = some d) (hagg : isAggD d = false) (hc : w.cell? a = some v) : (loadVar t a).run P w = .ok v w:=by
  unfold loadVar
  rw [Sem.run_bind,run_isAgg hd w,hagg]
  simp only [Result.andThen_ok,Bool.false_eq_true,if_false,run_load,hc]
section
variable {P : Program} {N : Nat} {ops : Array Oper} {Q : Exit→Act→World→Prop} {F : Nat→Prop} {w0 : World} {s : St} {a : Act} {w : World}
theorem move_stand {k d : Nat} {x : Operand} (hs : sigOf ops k = some (.move x,some d,true)) (hd : d < N) (hlen : s.tmps.length = N) (hh : Stand F w0 N s a w) {v : Value} (hx : a.eval x = v) (rest : List Nat)
    (hK : ∀ a',Stand F w0 N { s with tmps:=s.tmps.set d (.val v) } a' w→wpOps P ops Q rest a' w) : wpOps P ops Q (k :: rest) a w:=by
  obtain ⟨o,ho,hop,hdst,hg⟩:=sigOf_some hs
  exact op_stand ho hg hdst hd hlen hh (by simp only [execOp,hop,hx,Sem.run_pure]) rest hK
theorem index_stand {k d : Nat} {t elem : TypeId} {x ix : Operand} {ti : TypeInfo} (hs : sigOf ops k = some (.indexAddr t x ix,some d,true)) (hd : d < N) (hlen : s.tmps.length = N) (hu : P.underlying t = some (.slice elem)) (hi : P.info? elem = some ti)
    (hh : Stand F w0 N s a w) {b : Addr} {len cap i : Nat} {ik : IntKind} (hx : a.eval x = .slice (some b) len cap) (hix : a.eval ix = .int ik i) (hlt : i < len) (rest : List Nat)
    (hK : ∀ a',Stand F w0 N { s with tmps:=s.tmps.set d (.val (.pointer (some (b.add (i * ti.size))))) } a' w→wpOps P ops Q rest a' w) : wpOps P ops Q (k :: rest) a w:=by
  obtain ⟨o,ho,hop,hdst,hg⟩:=sigOf_some hs
  refine op_stand ho hg hdst hd hlen hh (v:=.pointer (some (b.add (i * ti.size)))) ?_ rest hK
  have hb : 0 ≤ (i : Int) ∧ (i : Int) < (len : Int):=by omega
  simp only [execOp,hop,Instr.indexAt,hix,asIntOf,Sem.run_bind,run_underlying hu,Result.andThen_ok,hx,Sem.run_pure,Sem.run_ite,if_pos hb,run_sizeOf hi,Int.toNat_natCast]
theorem load_stand {k d : Nat} {t : TypeId} {x : Operand} (hs : sigOf ops k = some (.load t x,some d,true)) (hd : d < N) (hlen : s.tmps.length = N) (hh : Stand F w0 N s a w) {b : Addr} (hx : a.eval x = .pointer (some b)) {v : Value} (hv : (loadVar t b).run P w = .ok v w) (rest : List Nat)
    (hK : ∀ a',Stand F w0 N { s with tmps:=s.tmps.set d (.val v) } a' w→wpOps P ops Q rest a' w) : wpOps P ops Q (k :: rest) a w:=by
  obtain ⟨o,ho,hop,hdst,hg⟩:=sigOf_some hs
  refine op_stand ho hg hdst hd hlen hh ?_ rest hK
  simp only [execOp,hop,Instr.loadAt,hx,Instr.sureAddr,Sem.run_bind,Sem.run_pure,Result.andThen_ok,hv]
end
end Go.Ab
namespace Go.Ab
open Go
variable {P : Program} {N : Nat}
def anyV : Nat→AV:=fun _=>.any
def restN (N : Nat) (ts : List Nat) : List Nat:=(nums 0 N).filter fun i=>!hasN ts i
def gSt (N : Nat) (tm : List (Nat × AV)) (H : Hp) (lo : Nat) : St:=⟨tmA N tm anyV,H,lo,4096 + 2 ^ 200,2 ^ 180,[]⟩
abbrev gRun (P : Program) (E : Env) (N : Nat) (c : Code) (s : St) (keep ts : List Nat) : Option (Ex × St):=run P (callN P E 4) N { quiet:=isSum E.gam } [] 1000 (Ex × St) c s (fun e s=>some (e,dropSt keep (restN N ts) s))
abbrev gCut (P : Program) (E : Env) (N : Nat) (c : Code) (s : St) (lo : Nat) (keep ts : List Nat) : Option (Ex × St):=run P (callN P E 4) N { quiet:=isSum E.gam } [] 1000 (Ex × St) c s (fun e s=>some (e,{ dropSt keep (restN N ts) s with lo:=lo }))
theorem gRun_runs {E : Env} (hG : GamOk P E.gam) {c : Code} {s s1 : St} {e : Ex} {keep ts : List Nat} (h : gRun P E N c s keep ts = some (e,s1)) : RunsTo P N c s e s1:=runs_drop (callN_ok hG 4) keep _ h
theorem gCut_runs {E : Env} (hG : GamOk P E.gam) {c : Code} {s s1 : St} {e : Ex} {lo : Nat} {keep ts : List Nat} (h : gCut P E N c s lo keep ts = some (e,s1)) (hlo : s.lo = lo) (hok : okClean lo s1 = true) (hhi : s1.hi = s.hi) : RunsTo P N c s e s1:=by
  subst hlo
  simp only [okClean,Bool.and_eq_true,List.all_eq_true,Nat.blt_eq] at hok
  obtain ⟨hct,hch⟩:=hok
  refine runs_gc (callN_ok hG 4) (restN N ts) keep h hhi (fun b c hb=>?_) fun σ _ _ l c hl=>?_
  · have hm:=hget_mem (H:=s1.heap) hb
    have:=(hch _ hm).1
    unfold cleanB
    omega
  · cases l with
    | tmp t =>
      simp only [St.u,stU,Option.map_eq_some_iff] at hl
      obtain ⟨x,hx,rfl⟩:=hl
      intro b hb
      have:=hct x (List.mem_of_getElem? hx) b hb
      unfold cleanB
      omega
    | blk b =>
      have hm:=hget_mem (H:=s1.heap) hl
      have:=(hch _ hm).2
      cases c with
      | av x=>intro d hd; have:=this d hd; unfold cleanB; omega
      | row e cs=>intro d hd; have:=this d hd; unfold cleanB; omega
      | obj o=>trivial
theorem RunsTo.freed {c : Code} {s s1 : St} {e : Ex} (h2 : RunsTo P N c s e s1) {lo : Nat} (hlo : s.lo = lo) (hok : okClean lo s1 = true) (hhi : s1.hi = s.hi) : RunsTo P N c s e { s1 with lo:=lo }:=by
  subst hlo
  simp only [okClean,Bool.and_eq_true,List.all_eq_true,Nat.blt_eq] at hok
  obtain ⟨hct,hch⟩:=hok
  have hblk : ∀ b c,s1.u (.blk b) = some c→cleanB s.lo s.hi b:=fun b c hb=>by
    have hm:=hget_mem (H:=s1.heap) hb
    have:=(hch _ hm).1
    unfold cleanB
    omega
  have hcl : ∀ l c,s1.u l = some c→CleanC s.lo s.hi c:=fun l c hl=>by
    cases l with
    | tmp t =>
      simp only [St.u,stU,Option.map_eq_some_iff] at hl
      obtain ⟨x,hx,rfl⟩:=hl
      intro b hb
      have:=hct x (List.mem_of_getElem? hx) b hb
      unfold cleanB
      omega
    | blk b =>
      have hm:=hget_mem (H:=s1.heap) hl
      have:=(hch _ hm).2
      cases c with
      | av x=>intro d hd; have:=this d hd; unfold cleanB; omega
      | row e cs=>intro d hd; have:=this d hd; unfold cleanB; omega
      | obj o=>trivial
  intro w0 own σ0 lo0 hi0 a w hst Q hQ
  refine h2 w0 own σ0 lo0 hi0 a w hst Q fun a' w' hst'=>hQ a' w' ?_
  obtain ⟨σs,us,hfs,hss,hns,hls,hos,hlos,his⟩:=hst
  obtain ⟨σ,u,hf,hs,hn,hl,ho,hlo,hi⟩:=hst'
  have hw : Fits N w0 own σ s1.u a' w':=hf.sub hs
  have hnone : ∀ b,s.lo ≤ b→b < s.hi→σ0 b = none:=by
    intro b hb1 hb2
    cases h0 : σ0 b with
    | none=>rfl
    | some r=>have:=hls b r h0; rw [hns b hb1 hb2] at this; cases this
  refine ⟨cutσ σ s.lo s.hi,s1.u,?_,Sub.refl _,fun b hb1 hb2=>?_,fun b r hb=>?_,fun b hb1 hb2=>?_,hlos,by rw [hhi]; exact his⟩
  · refine { hw with tmp:=fun t v hv=>?_,row:=fun b e cs hb=>?_,obj:=fun b o hb=>?_,inj:=fun b b' r h1 h2=>hw.inj b b' r (cutσ_some h1) (cutσ_some h2),bound:=fun b r hb=>hw.bound b r (cutσ_some hb),ownsR:=fun b e cs r hb hr=>hw.ownsR b e cs r hb (cutσ_some hr),ownsO:=fun b o r hb hr=>hw.ownsO b o r hb (cutσ_some hr) }
    · obtain ⟨x,h3,h4⟩:=hw.tmp t v hv
      exact ⟨x,h3,Rel.cut v x (hcl _ _ hv) h4⟩
    · obtain ⟨r,vs,h3,h4,h5⟩:=hw.row b e cs hb
      exact ⟨r,vs,by rw [cutσ_clean (hblk b _ hb)]; exact h3,h4,Rels.cut cs vs (hcl _ _ hb) h5⟩
    · obtain ⟨r,o',h3,h4,h5⟩:=hw.obj b o hb
      exact ⟨r,o',by rw [cutσ_clean (hblk b _ hb)]; exact h3,h4,h5⟩
  · have hb2 : b < s.hi:=by rw [← hhi]; exact hb2
    unfold cutσ
    rw [if_pos ⟨hb1,hb2⟩]
  · have hc : cleanB s.lo s.hi b:=fun hc=>by rw [hnone b hc.1 hc.2] at hb; cases hb
    rw [cutσ_clean hc]
    exact hl b r hb
  · have:=ho b hb1 hb2
    unfold cutσ
    split
    · rfl
    · exact this
def ints (n : Nat) (v : Nat→Int) : List AV:=(nums 0 n).map fun i=>.val (.int .i64 (v i))
end Go.Ab
namespace Go.Ab
open Go
variable {P : Program} {N : Nat}
theorem posOf_at : ∀ {L : List Nat} {k i m : Nat},L.Nodup→L[i]? = some m→posOf k L m = some (k + i)
  | [],k,i,m,_,h=>by simp at h
  | x :: r,k,0,m,_,h=>by
    simp at h
    subst h
    simp [posOf]
  | x :: r,k,i + 1,m,hnd,h=>by
    simp at h
    rw [List.nodup_cons] at hnd
    have hne : Nat.beq x m = false:=by
      cases hb : Nat.beq x m with
      | false=>rfl
      | true =>
        have:=Nat.eq_of_beq_eq_true hb
        subst this
        exact absurd (List.mem_of_getElem? h) hnd.1
    simp only [posOf,hne]
    rw [posOf_at hnd.2 h]
    congr 1
    omega
def newR (k : Nat) (Ms : List Nat) : Nat→Option Nat:=fun b=>match Nat.blt b k with | true=>some b | false=>posOf k Ms b
theorem newR_spec {k : Nat} {Ms : List Nat} {b b' : Nat} (h : newR k Ms b = some b') : (b < k ∧ b' = b) ∨ (k ≤ b' ∧ Ms[b' - k]? = some b):=by
  unfold newR at h
  split at h
  · rename_i hb
    cases h
    exact .inl ⟨by simpa using hb,rfl⟩
  · exact .inr (posOf_spec Ms k b b' h)
theorem newR_old {k : Nat} {Ms : List Nat} {b : Nat} (h : b < k) : newR k Ms b = some b:=by
  unfold newR
  rw [show Nat.blt b k = true by simpa using h]
theorem newR_new {k : Nat} {Ms : List Nat} {i m : Nat} (hnd : Ms.Nodup) (hm : k ≤ m) (h : Ms[i]? = some m) : newR k Ms m = some (k + i):=by
  unfold newR
  rw [show Nat.blt m k = false by
    cases hb : Nat.blt m k with
    | false=>rfl
    | true=>rw [Nat.blt_eq] at hb; omega]
  exact posOf_at hnd h
theorem facts_new {f : FuncId} {args : List AV} {cs cs' ds cs2 : List Con} {Ms : List Nat} {r r' : AV} {lo hi : Nat} {H' : Hp} (hn : cs.length + Ms.length ≤ lo) (hl : cs'.length = cs.length) (hd : ds.length = Ms.length) (hnd : Ms.Nodup) (hM : ∀ m ∈ Ms,lo ≤ m ∧ m < hi)
    (ha : renL (upTo cs.length) args = some args) (hc : renCs (upTo cs.length) cs = some cs) (hr : renO (newR cs.length Ms) r = some r') (hc' : renCs (newR cs.length Ms) (cs' ++ ds) = some cs2)
    (hH1 : ∀ (b : Nat) c,cs'[b]? = some c→hget H' b = some c) (hH2 : ∀ (i m : Nat) d,Ms[i]? = some m→ds[i]? = some d→hget H' m = some d)
    (hf : CallFacts P f args (numH 0 cs) lo hi r H') : CallFacts P f args (numH 0 cs) cs.length (cs.length + Ms.length) r' (numH 0 cs2):=by
  intro σ vals w hinj hbd hvals hH hfree
  let σr : Nat→Option Nat:=fun b=>if b < cs.length then σ b else none
  have hσr : ∀ b r,σr b = some r→b < cs.length ∧ σ b = some r:=by
    intro b r hb
    simp only [σr] at hb
    split at hb
    · rename_i h; exact ⟨h,hb⟩
    · cases hb
  have t1 : Ties (upTo cs.length) σ σr:=by
    intro b b' hb r hr
    obtain ⟨h1,rfl⟩:=upTo_spec hb
    simp only [σr,if_pos h1]; exact hr
  have hHr : HFits σr (numH 0 cs) w:=by
    intro b c hb
    rw [hget_numH,if_pos (Nat.zero_le _),Nat.sub_zero] at hb
    obtain ⟨c0,h1,h2⟩:=renCs_get hc hb
    have hlt:=(List.getElem?_eq_some_iff.1 h1).1
    have hfit:=hH b c0 (by rw [hget_numH,if_pos (Nat.zero_le _),Nat.sub_zero]; exact h1)
    cases c0 with
    | av a=>simp [renC] at h2
    | row e cc =>
      obtain ⟨r0,vs,h5,h6⟩:=hfit
      exact renC_fits t1 h2 h5 (by simp only [σr,if_pos hlt]; exact h5) ⟨r0,vs,h5,h6⟩
    | obj o =>
      obtain ⟨r0,o',h5,h6⟩:=hfit
      exact renC_fits t1 h2 h5 (by simp only [σr,if_pos hlt]; exact h5) ⟨r0,o',h5,h6⟩
  refine Calls.mono (hf σr vals w (fun b b' r h1 h2=>hinj _ _ _ (hσr _ _ h1).2 (hσr _ _ h2).2) (fun b r h1=>hbd _ _ (hσr _ _ h1).2) (renL_rel t1 _ _ _ ha hvals) hHr (fun b h1 h2=>by simp only [σr]; rw [if_neg (by omega)])) fun e w' he=>?_
  obtain ⟨σ',v,rfl,p1,p2,p3,p4,p5,p6,p7,p8,p9,p10,p11,p12⟩:=he
  let σ2 : Nat→Option Nat:=fun b=>if b < cs.length then σ b else if b < cs.length + Ms.length then (Ms[b - cs.length]?).bind σ' else σ b
  have hold : ∀ b,(b < cs.length ∨ cs.length + Ms.length ≤ b)→σ2 b = σ b:=by
    intro b hb
    simp only [σ2]
    split
    · rfl
    · rw [if_neg (by omega)]
  have hnew : ∀ i m,Ms[i]? = some m→σ2 (cs.length + i) = σ' m:=by
    intro i m hi
    have hlt:=(List.getElem?_eq_some_iff.1 hi).1
    simp only [σ2]
    rw [if_neg (by omega),if_pos (by omega),Nat.add_sub_cancel_left,hi]
    rfl
  have hcase : ∀ b r,σ2 b = some r→((b < cs.length ∨ cs.length + Ms.length ≤ b) ∧ σ b = some r) ∨ ∃ i m,b = cs.length + i ∧ Ms[i]? = some m ∧ σ' m = some r:=by
    intro b r hb
    by_cases h1 : b < cs.length ∨ cs.length + Ms.length ≤ b
    · rw [hold b h1] at hb; exact .inl ⟨h1,hb⟩
    · have h2 : b - cs.length < Ms.length:=by omega
      have h3:=List.getElem?_eq_getElem h2
      refine .inr ⟨b - cs.length,_,by omega,h3,?_⟩
      have:=hnew _ _ h3
      rw [show cs.length + (b - cs.length) = b by omega] at this
      rw [← this]; exact hb
  have hsize : ∀ (i m r : Nat),Ms[i]? = some m→σ' m = some r→w.heap.size ≤ r:=by
    intro i m r hi hs
    have hlt:=(List.getElem?_eq_some_iff.1 hi).1
    obtain ⟨d,hd'⟩ : ∃ d,ds[i]? = some d:=⟨_,List.getElem?_eq_getElem (by omega)⟩
    rcases p7 m d (hH2 i m d hi hd') with ⟨c',hc0⟩ | h
    · rw [hget_numH,if_pos (Nat.zero_le _),Nat.sub_zero] at hc0
      have:=(List.getElem?_eq_some_iff.1 hc0).1
      have:=(hM m (List.mem_of_getElem? hi)).1
      omega
    · exact h r hs
  have t2 : Ties (newR cs.length Ms) σ' σ2:=by
    intro b b' hb r hr
    rcases newR_spec hb with ⟨h1,rfl⟩ | ⟨h1,h2⟩
    · rw [hold b' (.inl h1)]
      cases hs : σ b' with
      | some r0 =>
        have:=p1 b' r0 (by simp only [σr,if_pos h1]; exact hs)
        rw [hr] at this; cases this; rfl
      | none =>
        have:=p2 b' (by simp only [σr,if_pos h1]; exact hs) (.inl (by omega))
        rw [hr] at this; cases this
    · have:=hnew _ _ h2
      rw [show cs.length + (b' - cs.length) = b' by omega] at this
      rw [this]; exact hr
  refine ⟨σ2,v,rfl,fun b r hb=>?_,fun b hb hb2=>?_,renO_rel t2 _ _ _ hr p3,?_,fun b b' r h1 h2=>?_,fun b r hb=>?_,?_,p8,p9,p10,p11,?_⟩
  · by_cases h1 : b < cs.length ∨ cs.length + Ms.length ≤ b
    · rw [hold b h1]; exact hb
    · have:=hfree b (by omega) (by omega)
      rw [hb] at this; cases this
  · rw [hold b hb2]; exact hb
  · intro b c hb
    rw [hget_numH,if_pos (Nat.zero_le _),Nat.sub_zero] at hb
    obtain ⟨c0,h1,h2⟩:=renCs_get hc' hb
    by_cases hlt : b < cs.length
    · rw [List.getElem?_append_left (by omega)] at h1
      have hfit:=p4 b c0 (hH1 b c0 h1)
      cases c0 with
      | av a=>simp [renC] at h2
      | row e cc =>
        obtain ⟨r0,vs,h5,h6⟩:=hfit
        exact renC_fits t2 h2 h5 (t2 b b (newR_old hlt) r0 h5) ⟨r0,vs,h5,h6⟩
      | obj o =>
        obtain ⟨r0,o',h5,h6⟩:=hfit
        exact renC_fits t2 h2 h5 (t2 b b (newR_old hlt) r0 h5) ⟨r0,o',h5,h6⟩
    · rw [List.getElem?_append_right (by omega),hl] at h1
      have hlt2:=(List.getElem?_eq_some_iff.1 h1).1
      have hm:=List.getElem?_eq_getElem (l:=Ms) (i:=b - cs.length) (by omega)
      have hmlo:=(hM _ (List.mem_of_getElem? hm)).1
      have hfit:=p4 _ c0 (hH2 _ _ c0 hm h1)
      have hρ:=newR_new (k:=cs.length) hnd (by omega) hm
      rw [show cs.length + (b - cs.length) = b by omega] at hρ
      cases c0 with
      | av a=>simp [renC] at h2
      | row e cc =>
        obtain ⟨r0,vs,h5,h6⟩:=hfit
        exact renC_fits t2 h2 h5 (t2 _ b hρ r0 h5) ⟨r0,vs,h5,h6⟩
      | obj o =>
        obtain ⟨r0,o',h5,h6⟩:=hfit
        exact renC_fits t2 h2 h5 (t2 _ b hρ r0 h5) ⟨r0,o',h5,h6⟩
  · rcases hcase b r h1 with ⟨k1,k2⟩ | ⟨i,m,rfl,k2,k3⟩ <;> rcases hcase b' r h2 with ⟨j1,j2⟩ | ⟨i',m',rfl,j2,j3⟩
    · exact hinj _ _ _ k2 j2
    · have:=hsize _ _ _ j2 j3
      have:=hbd _ _ k2
      omega
    · have:=hsize _ _ _ k2 k3
      have:=hbd _ _ j2
      omega
    · have hm:=p5 _ _ _ k3 j3
      subst hm
      have a:=posOf_at (k:=0) hnd k2
      have b:=posOf_at (k:=0) hnd j2
      rw [a] at b
      simp at b
      omega
  · rcases hcase b r hb with ⟨_,k2⟩ | ⟨i,m,rfl,k2,k3⟩
    · exact Nat.lt_of_lt_of_le (hbd b r k2) p11
    · exact p6 _ _ k3
  · intro b c hb
    rw [hget_numH,if_pos (Nat.zero_le _),Nat.sub_zero] at hb
    by_cases hlt : b < cs.length
    · exact .inl ⟨cs[b],by rw [hget_numH,if_pos (Nat.zero_le _),Nat.sub_zero]; exact List.getElem?_eq_getElem hlt⟩
    · refine .inr fun r hs=>?_
      obtain ⟨c0,h1,h2⟩:=renCs_get hc' hb
      have hlt2:=(List.getElem?_eq_some_iff.1 h1).1
      rw [List.length_append] at hlt2
      rcases hcase b r hs with ⟨k1,_⟩ | ⟨i,m,rfl,k2,k3⟩
      · omega
      · exact hsize _ _ _ k2 k3
  · intro k hk hno
    refine p12 k hk fun b c hb hs=>?_
    rw [hget_numH,if_pos (Nat.zero_le _),Nat.sub_zero] at hb
    obtain ⟨h1,h2⟩:=hσr b k hs
    exact hno b cs[b] (by rw [hget_numH,if_pos (Nat.zero_le _),Nat.sub_zero]; exact List.getElem?_eq_getElem h1) h2
theorem sum_new {f : FuncId} {fn : Func} {c : Code} (hfn : P.funcs[f]? = some fn) (hbody : fn.body = some c) (hN : fn.ntmps = N) {args : List AV} {cs cs' ds cs2 : List Con} {Ms : List Nat} {r r' : AV} (hle : args.length ≤ N) (hn : cs.length + Ms.length ≤ 4096) (hl : cs'.length = cs.length) (hd : ds.length = Ms.length) (hnd : Ms.Nodup) (hM : ∀ m ∈ Ms,4096 ≤ m ∧ m < 4096 + 2 ^ 200)
    (ha : renL (upTo cs.length) args = some args) (hc : renCs (upTo cs.length) cs = some cs)
    {e : Ex} (he : e = .normal ∨ e = .ret) {s' : St} (h : RunsTo P N c (startS N args cs) e s') {l : List AV} (hres : resA P s' fn.results.toList = some l) (hp : pack l = r) (hr : renO (newR cs.length Ms) r = some r') (hcs : ∀ b c,cs'[b]? = some c→hget s'.heap b = some c) (hds : ∀ (i m : Nat) d,Ms[i]? = some m→ds[i]? = some d→hget s'.heap m = some d)
    (hok : noAv s'.heap = true) (hc' : renCs (newR cs.length Ms) (cs' ++ ds) = some cs2) (hl2 : cs2.length = cs.length + Ms.length) :
    cs.length ≤ cs2.length ∧ CallFacts P f args (numH 0 cs) cs.length cs2.length r' (numH 0 cs2):=by
  subst hN
  subst hp
  rw [hl2]
  exact ⟨by omega,facts_new hn hl hd hnd hM ha hc hr hc' hcs hds (RunsTo.facts hfn hbody (hi:=4096 + 2 ^ 200) hle he h hres s'.heap (fun b c hb=>hb) hok)⟩
end Go.Ab
namespace Go.Ab
structure U6 where
  n : Int
instance : Cod U6 where
  enc x:=.int .u64 x.n
  dec v:=match v with | .int .u64 x=>some ⟨x⟩ | _=>none
  law v a h:=by split at h <;> simp_all; subst h; simp
def S0c {α ω : Type} [Args α] [Cod ω] (pre : α→Bool) (g : α→ω) : Summary:=fun args cs=>match cs with
  | []=>match Args.decs (α:=α) args with
    | some a=>.test (pre a) (.ret (.val (Cod.enc (g a))) []) .no
    | none=>.no
  | _ :: _=>.no
theorem S0c_sel {α ω : Type} [Args α] [Cod ω] {pre : α→Bool} {g : α→ω} {args : List AV} {cs cs' : List Con} {r : AV} (h : (S0c pre g args cs).sel = some (r,cs')) :
    ∃ a,pre a = true ∧ args = Args.encs a ∧ cs = [] ∧ r = .val (Cod.enc (g a)) ∧ cs' = []:=by
  unfold S0c at h
  split at h
  · split at h
    · rename_i a h1
      simp only [STr.sel] at h
      cases hp : pre a with
      | false=>rw [hp] at h; cases h
      | true =>
        rw [hp] at h
        simp only [cond_true,Option.some.injEq,Prod.mk.injEq] at h
        obtain ⟨rfl,rfl⟩:=h
        exact ⟨a,hp,Args.law _ _ h1,rfl,rfl,rfl⟩
    · simp [STr.sel] at h
  · simp [STr.sel] at h
theorem S0c_okH {α ω : Type} [Args α] [Cod ω] {P : Program} {E : Env} (hG : GamOk P E.gam) {hB : Hints} {f : FuncId} (hfit : ∀ fn c,P.funcs[f]? = some fn→fn.body = some c→HFit P fn.ntmps hB c) {pre : α→Bool} {g : α→ω} (d : Nat)
    (h : ∀ a,pre a = true→fnSum P E hB d f (Args.encs a) [] = some (.val (Cod.enc (g a)),[])) : SumOk P f (S0c pre g):=by
  refine sumOk_ofH hG hfit fun args cs r cs' hs=>?_
  obtain ⟨a,hp,rfl,rfl,rfl,rfl⟩:=S0c_sel hs
  exact ⟨by simp,d,h a hp⟩
theorem facts_quiet {P : Program} {f : FuncId} {vals : List Value} {v : Value} (h : ∀ w,Calls P f (List.toArray vals) w fun e w'=>e = .returned v ∧ w' = w) : CallFacts P f (vals.map .val) (numH 0 []) 0 0 (.val v) (numH 0 []):=by
  intro σ vs w hinj hbd hvals _ _
  have e : vs = vals:=by
    clear h hinj hbd
    induction vals generalizing vs with
    | nil=>simpa only [List.map_nil,Rels] using hvals
    | cons a r ih =>
      simp only [List.map_cons,Rels] at hvals
      obtain ⟨x,xs,rfl,h1,h2⟩:=hvals
      simp only [Rel] at h1
      rw [h1,ih xs h2]
  subst e
  refine Calls.mono (h w) fun e w' ⟨he,hw⟩=>?_
  subst hw
  exact ⟨σ,v,he,Le.refl σ,fun _ h _=>h,by simp only [Rel],fun b c hb=>by simp [numH,hget] at hb,hinj,hbd,fun b c hb=>by simp [numH,hget] at hb,rfl,rfl,rfl,Nat.le_refl _,fun _ _ _=>rfl⟩
theorem S0c_quiet {α ω : Type} [Args α] [Cod ω] {P : Program} {f : FuncId} {pre : α→Bool} {g : α→ω} (vals : α→List Value) (hv : ∀ a,Args.encs a = (vals a).map .val)
    (h : ∀ a,pre a = true→∀ w,Calls P f (List.toArray (vals a)) w fun e w'=>e = .returned (Cod.enc (g a)) ∧ w' = w) : SumOk P f (S0c pre g):=by
  intro args cs r cs' hs
  obtain ⟨a,hp,rfl,rfl,rfl,rfl⟩:=S0c_sel hs
  exact sum_same ⟨rfl,by rw [hv]; exact facts_quiet (h a hp)⟩
end Go.Ab
namespace Go.Ab
structure Wd where
  h : Int
  l : Int
instance : Cod Wd where
  enc v:=.agg #[.int .u64 v.h,.int .u64 v.l]
  dec v:=match v with | .agg ⟨[.int .u64 x,.int .u64 y]⟩=>some ⟨x,y⟩ | _=>none
  law v a h:=by split at h <;> simp_all; subst h; simp
end Go.Ab
namespace Go.Ab
structure Pl where
  mode : Int
  calm : Int
  good : Int
  miss : Int
  lost : Int
  faults : Int
structure Sn where
  gap : Bool
  gyro : Bool
  slow : Bool
  pair : Bool
  lit : Bool
  bad : Bool
  pass : Bool
  order : Int
instance : Cod Pl where
  enc p:=.agg #[.int .i64 p.mode,.int .i64 p.calm,.int .i64 p.good,.int .i64 p.miss,.int .i64 p.lost,.int .i64 p.faults]
  dec v:=match v with | .agg ⟨[.int .i64 a,.int .i64 b,.int .i64 c,.int .i64 d,.int .i64 e,.int .i64 f]⟩=>some ⟨a,b,c,d,e,f⟩ | _=>none
  law v a h:=by split at h <;> simp_all; subst h; simp
instance : Cod Sn where
  enc s:=.agg #[.bool s.gap,.bool s.gyro,.bool s.slow,.bool s.pair,.bool s.lit,.bool s.bad,.bool s.pass,.int .i64 s.order]
  dec v:=match v with | .agg ⟨[.bool a,.bool b,.bool c,.bool d,.bool e,.bool f,.bool g,.int .i64 h]⟩=>some ⟨a,b,c,d,e,f,g,h⟩ | _=>none
  law v a h:=by split at h <;> simp_all; subst h; simp
def cntV (n : Int) : Int:=bif decide (n ≥ 100) then 100 else IntKind.i64.wrap (n + 1)
def toV (mode faults : Int) : Pl:=⟨mode,0,0,0,0,faults⟩
def orV (a b : Int) : Int:=IntKind.i64.wrap ↑(BitVec.ofInt IntKind.i64.bits a ||| BitVec.ofInt IntKind.i64.bits b).toNat
def fineV (p : Pl) (s : Sn) : Pl :=
  bif s.gap then toV 1 (orV p.faults 1) else bif s.bad then toV 1 (orV p.faults 4) else
    let lost:=bif s.gyro then 0 else cntV p.lost
    bif decide (lost ≥ 3) then toV 1 (orV p.faults 2) else
      bif s.pair && s.lit then
        let miss:=bif s.pass then 0 else cntV p.miss
        bif decide (miss ≥ 5) then toV 1 (orV p.faults 8) else ⟨p.mode,p.calm,p.good,miss,lost,p.faults⟩
      else ⟨p.mode,p.calm,p.good,p.miss,lost,p.faults⟩
def nextV (p : Pl) (s : Sn) : Pl :=
  bif s.order == 1 then toV 3 p.faults else
  bif p.mode == 3 then (bif s.order == 2 then toV 0 0 else p) else
  bif p.mode == 0 then
    let calm:=bif s.gyro && s.slow then cntV p.calm else 0
    bif decide (calm ≥ 3) then toV 1 p.faults else ⟨p.mode,calm,p.good,p.miss,p.lost,p.faults⟩
  else bif p.mode == 1 then
    bif s.gap then toV 1 (orV p.faults 1) else bif s.gyro && !s.slow then toV 0 p.faults else
      let good:=bif s.gyro && (s.pair && s.lit) then cntV p.good else 0
      bif decide (good ≥ 2) then toV 2 p.faults else ⟨p.mode,p.calm,good,p.miss,p.lost,p.faults⟩
  else bif p.mode == 2 then fineV p s else toV 3 p.faults
end Go.Ab
namespace Go.Ab
open Go Go.Proofs
def lkey : Nat→Value
  | 0=>.agg #[.int .i64 1,.int .i64 1]
  | 1=>.agg #[.int .i64 2,.int .i64 1]
  | 2=>.agg #[.int .i64 2,.int .i64 4]
  | 3=>.agg #[.int .i64 2,.int .i64 2]
  | _=>.agg #[.int .i64 2,.int .i64 8]
def lone : Value:=.int .i64 1
def lbuf : List Value:=[lkey 0,lone,lkey 1,lone,lkey 2,lone,lkey 3,lone,lkey 4,lone]
def lopsOf : Option Code→Array Oper
  | some (.seq _ (.seq (.region _ ops _) _))=>ops
  | _=>#[]
noncomputable def lops : Array Oper:=lopsOf Tryz.f225.body
theorem lop_size : lops.size = 13:=by kernel_rfl
noncomputable def lsig (i : Nat) : Option (Op × Option Nat × Bool × List Nat):=(lops[i]?).map fun o=>(o.op,o.dst,o.guard.isNone,binding o)
theorem ls0 : lsig 0 = some (.makeMap 251 none,some 1,true,[]):=by kernel_rfl
def lps : Nat→Array (Nat × Operand)
  | 0=>#[(0,.const (.int .i64 1)),(1,.const (.int .i64 1))]
  | 1=>#[(0,.const (.int .i64 2)),(1,.const (.int .i64 1))]
  | 2=>#[(0,.const (.int .i64 2)),(1,.const (.int .i64 4))]
  | 3=>#[(0,.const (.int .i64 2)),(1,.const (.int .i64 2))]
  | _=>#[(0,.const (.int .i64 2)),(1,.const (.int .i64 8))]
theorem lsB0 : lsig 1 = some (.build 254 (lps 0),some 2,true,[]):=by kernel_rfl
theorem lbd0 (a : Act) (w : World) : (Instr.build 254 ((lps 0).map fun p=>(p.1,a.eval p.2))).run Tryz.prog w = .ok (lkey 0) w:=by kernel_rfl
theorem lck0 : evalSem Tryz.prog (Instr.checkKey false 10000 254 (lkey 0)) = some ():=by kernel_rfl
theorem lap01 : eqT Tryz.prog 100 254 (lkey 0) (lkey 1) = some false:=by kernel_rfl
theorem lap02 : eqT Tryz.prog 100 254 (lkey 0) (lkey 2) = some false:=by kernel_rfl
theorem lap03 : eqT Tryz.prog 100 254 (lkey 0) (lkey 3) = some false:=by kernel_rfl
theorem lap04 : eqT Tryz.prog 100 254 (lkey 0) (lkey 4) = some false:=by kernel_rfl
theorem lsB1 : lsig 3 = some (.build 254 (lps 1),some 3,true,[]):=by kernel_rfl
theorem lbd1 (a : Act) (w : World) : (Instr.build 254 ((lps 1).map fun p=>(p.1,a.eval p.2))).run Tryz.prog w = .ok (lkey 1) w:=by kernel_rfl
theorem lck1 : evalSem Tryz.prog (Instr.checkKey false 10000 254 (lkey 1)) = some ():=by kernel_rfl
theorem lap10 : eqT Tryz.prog 100 254 (lkey 1) (lkey 0) = some false:=by kernel_rfl
theorem lap12 : eqT Tryz.prog 100 254 (lkey 1) (lkey 2) = some false:=by kernel_rfl
theorem lap13 : eqT Tryz.prog 100 254 (lkey 1) (lkey 3) = some false:=by kernel_rfl
theorem lap14 : eqT Tryz.prog 100 254 (lkey 1) (lkey 4) = some false:=by kernel_rfl
theorem lsB2 : lsig 5 = some (.build 254 (lps 2),some 4,true,[]):=by kernel_rfl
theorem lbd2 (a : Act) (w : World) : (Instr.build 254 ((lps 2).map fun p=>(p.1,a.eval p.2))).run Tryz.prog w = .ok (lkey 2) w:=by kernel_rfl
theorem lck2 : evalSem Tryz.prog (Instr.checkKey false 10000 254 (lkey 2)) = some ():=by kernel_rfl
theorem lap20 : eqT Tryz.prog 100 254 (lkey 2) (lkey 0) = some false:=by kernel_rfl
theorem lap21 : eqT Tryz.prog 100 254 (lkey 2) (lkey 1) = some false:=by kernel_rfl
theorem lap23 : eqT Tryz.prog 100 254 (lkey 2) (lkey 3) = some false:=by kernel_rfl
theorem lap24 : eqT Tryz.prog 100 254 (lkey 2) (lkey 4) = some false:=by kernel_rfl
theorem lsB3 : lsig 7 = some (.build 254 (lps 3),some 5,true,[]):=by kernel_rfl
theorem lbd3 (a : Act) (w : World) : (Instr.build 254 ((lps 3).map fun p=>(p.1,a.eval p.2))).run Tryz.prog w = .ok (lkey 3) w:=by kernel_rfl
theorem lck3 : evalSem Tryz.prog (Instr.checkKey false 10000 254 (lkey 3)) = some ():=by kernel_rfl
theorem lap30 : eqT Tryz.prog 100 254 (lkey 3) (lkey 0) = some false:=by kernel_rfl
theorem lap31 : eqT Tryz.prog 100 254 (lkey 3) (lkey 1) = some false:=by kernel_rfl
theorem lap32 : eqT Tryz.prog 100 254 (lkey 3) (lkey 2) = some false:=by kernel_rfl
theorem lap34 : eqT Tryz.prog 100 254 (lkey 3) (lkey 4) = some false:=by kernel_rfl
theorem lsB4 : lsig 9 = some (.build 254 (lps 4),some 6,true,[]):=by kernel_rfl
theorem lbd4 (a : Act) (w : World) : (Instr.build 254 ((lps 4).map fun p=>(p.1,a.eval p.2))).run Tryz.prog w = .ok (lkey 4) w:=by kernel_rfl
theorem lck4 : evalSem Tryz.prog (Instr.checkKey false 10000 254 (lkey 4)) = some ():=by kernel_rfl
theorem lap40 : eqT Tryz.prog 100 254 (lkey 4) (lkey 0) = some false:=by kernel_rfl
theorem lap41 : eqT Tryz.prog 100 254 (lkey 4) (lkey 1) = some false:=by kernel_rfl
theorem lap42 : eqT Tryz.prog 100 254 (lkey 4) (lkey 2) = some false:=by kernel_rfl
theorem lap43 : eqT Tryz.prog 100 254 (lkey 4) (lkey 3) = some false:=by kernel_rfl
theorem lsB (i : Nat) (h : i < 5) : lsig (2 * i + 1) = some (.build 254 (lps i),some (2 + i),true,[]):=by
  match i,h with
  | 0,_=>exact lsB0
  | 1,_=>exact lsB1
  | 2,_=>exact lsB2
  | 3,_=>exact lsB3
  | 4,_=>exact lsB4
theorem lbd (i : Nat) (h : i < 5) (a : Act) (w : World) : (Instr.build 254 ((lps i).map fun p=>(p.1,a.eval p.2))).run Tryz.prog w = .ok (lkey i) w:=by
  match i,h with
  | 0,_=>exact lbd0 a w
  | 1,_=>exact lbd1 a w
  | 2,_=>exact lbd2 a w
  | 3,_=>exact lbd3 a w
  | 4,_=>exact lbd4 a w
theorem lkey_check (i : Nat) (h : i < 5) : evalSem Tryz.prog (Instr.checkKey false 10000 254 (lkey i)) = some ():=by
  match i,h with
  | 0,_=>exact lck0
  | 1,_=>exact lck1
  | 2,_=>exact lck2
  | 3,_=>exact lck3
  | 4,_=>exact lck4
theorem lkey_apart (i j : Nat) (hi : i < 5) (hj : j < 5) (h : i ≠ j) : eqT Tryz.prog 100 254 (lkey i) (lkey j) = some false:=by
  match i,j,hi,hj,h with
  | 0,0,_,_,h=>exact absurd rfl h
  | 0,1,_,_,h=>exact lap01
  | 0,2,_,_,h=>exact lap02
  | 0,3,_,_,h=>exact lap03
  | 0,4,_,_,h=>exact lap04
  | 1,0,_,_,h=>exact lap10
  | 1,1,_,_,h=>exact absurd rfl h
  | 1,2,_,_,h=>exact lap12
  | 1,3,_,_,h=>exact lap13
  | 1,4,_,_,h=>exact lap14
  | 2,0,_,_,h=>exact lap20
  | 2,1,_,_,h=>exact lap21
  | 2,2,_,_,h=>exact absurd rfl h
  | 2,3,_,_,h=>exact lap23
  | 2,4,_,_,h=>exact lap24
  | 3,0,_,_,h=>exact lap30
  | 3,1,_,_,h=>exact lap31
  | 3,2,_,_,h=>exact lap32
  | 3,3,_,_,h=>exact absurd rfl h
  | 3,4,_,_,h=>exact lap34
  | 4,0,_,_,h=>exact lap40
  | 4,1,_,_,h=>exact lap41
  | 4,2,_,_,h=>exact lap42
  | 4,3,_,_,h=>exact lap43
  | 4,4,_,_,h=>exact absurd rfl h
theorem lsI0 : lsig 2 = some (.insert 251 (.tmp 1) (.tmp 2) (.const lone),none,true,[0,1]):=by kernel_rfl
theorem lsI1 : lsig 4 = some (.insert 251 (.tmp 1) (.tmp 3) (.const lone),none,true,[0,3]):=by kernel_rfl
theorem lsI2 : lsig 6 = some (.insert 251 (.tmp 1) (.tmp 4) (.const lone),none,true,[0,5]):=by kernel_rfl
theorem lsI3 : lsig 8 = some (.insert 251 (.tmp 1) (.tmp 5) (.const lone),none,true,[0,7]):=by kernel_rfl
theorem lsI4 : lsig 10 = some (.insert 251 (.tmp 1) (.tmp 6) (.const lone),none,true,[0,9]):=by kernel_rfl
theorem lsI (i : Nat) (h : i < 5) : lsig (2 * i + 2) = some (.insert 251 (.tmp 1) (.tmp (2 + i)) (.const lone),none,true,[0,2 * i + 1]):=by
  match i,h with
  | 0,_=>exact lsI0
  | 1,_=>exact lsI1
  | 2,_=>exact lsI2
  | 3,_=>exact lsI3
  | 4,_=>exact lsI4
theorem lsM : lsig 11 = some (.move (.tmp 1),some 7,true,[0,1,2,3,4,5,6,7,8,9,10]):=by kernel_rfl
theorem lsA : lsig 12 = some (.assign (.tmp 7),some 0,true,[11,0,1,2,3,4,5,6,7,8,9,10,11]):=by kernel_rfl
theorem lsig_of {i : Nat} {op : Op} {d : Option Nat} {g : Bool} {bs : List Nat} (h : lsig i = some (op,d,g,bs)) : ∃ o,lops[i]? = some o ∧ o.op = op ∧ o.dst = d ∧ o.guard.isNone = g ∧ binding o = bs:=by
  unfold lsig at h
  cases ho : lops[i]? with
  | none=>rw [ho] at h; cases h
  | some o =>
    rw [ho] at h
    simp only [Option.map_some,Option.some.injEq,Prod.mk.injEq] at h
    exact ⟨o,rfl,h.1,h.2.1,h.2.2.1,h.2.2.2⟩
theorem findN_run {P : Program} {kt : TypeId} {key : Value} (w : World) : ∀ (es : List MapEntry) (i : Nat),(∀ e ∈ es,eqT P 100 kt key e.key = some false)→(Instr.findAsking kt key es i).run P w = .ok none w
  | [],i,_=>by simp [Instr.findAsking]
  | e :: es,i,h=>by
    have hrun : (Op.equal kt key e.key).run P w = .ok false w:=run_eqT 100 10000 kt key e.key false w (by omega) (h e (by simp))
    simp only [Instr.findAsking,Sem.run_bind,hrun,Result.andThen_ok,Bool.false_eq_true,if_false,findN_run w es (i + 1) fun x hx=>h x (by simp [hx])]
theorem lstruct : ∃ fs,Tryz.prog.underlying 254 = some (.struct fs):=⟨_,Tryz.underlying254⟩
theorem linsert {i : Nat} (hi : i < 5) {es : Array MapEntry} {c r : Nat} {w : World} (hr : w.heap[r]? = some (.map es c)) (h : ∀ e ∈ es.toList,eqT Tryz.prog 100 254 (lkey i) e.key = some false) :
    (Instr.mapUpdate 251 (.map (some r)) (lkey i) lone).run Tryz.prog w = .ok () { w with heap:=w.heap.setIfInBounds r (.map (es.push { key:=lkey i,val:=lone,born:=c }) (c + 1)) }:=by
  have hg : (getObj r).run Tryz.prog w = .ok (.map es c) w:=by simp [getObj,Sem.run,hr]
  have hs : ∀ o,(setObj r o).run Tryz.prog w = .ok () { w with heap:=w.heap.setIfInBounds r o }:=by intro o; simp [setObj,Sem.run,hr]
  obtain ⟨fs,hst⟩:=lstruct
  have hf : (Instr.findKey 254 (lkey i) es.toList).run Tryz.prog w = .ok none w:=by
    unfold Instr.findKey
    simp only [Sem.run_bind,run_underlying hst,Result.andThen_ok]
    cases hl : es.toList with
    | nil=>simp [Instr.findNow]
    | cons e es' =>
      have : Instr.findNow (.struct fs) (lkey i) (e :: es') 0 = none:=by simp [Instr.findNow,Instr.sameNow]
      rw [this]
      exact findN_run w _ 0 fun x hx=>h x (by rw [hl]; exact hx)
  unfold Instr.mapUpdate
  have hu : Tryz.prog.underlying 251 = some (.map 254 3):=by kernel_rfl
  simp only [Sem.run_bind,run_underlying hu,Result.andThen_ok,hg,evalSem_run (lkey_check i hi) w,hf,hs]
structure LI (w0 : World) (L : Nat→Bool) (a : Act) (w : World) : Prop where
  defers : a.defers = []
  size : a.tmps.size = 8
  os : w.os = w0.os
  tape : w.tape = w0.tape
  output : w.output = w0.output
  m0 : L 0 = false→w.heap = w0.heap
  m1 : L 0 = true→a.tmps[1]? = some (.map (some w0.heap.size)) ∧ ∃ es c,w.heap = w0.heap.push (.map es c) ∧ ∀ p,p ∈ es.toList.map kvOf ↔ ∃ i,i < 5 ∧ L (2 * i + 2) = true ∧ p = (lkey i,lone)
  bd : ∀ i,i < 5→L (2 * i + 1) = true→a.tmps[2 + i]? = some (lkey i)
  mv : L 11 = true→a.tmps[7]? = some (.map (some w0.heap.size))
  asg : L 12 = true→a.tmps[0]? = some (.map (some w0.heap.size))
  no : L 0 = false→∀ i,i < 5→L (2 * i + 2) = false
def lset (L : Nat→Bool) (j : Nat) : Nat→Bool:=fun i=>if i = j then true else L i
theorem lset_at (L : Nat→Bool) (j : Nat) : lset L j j = true:=by simp [lset]
theorem lset_ne (L : Nat→Bool) {i j : Nat} (h : i ≠ j) : lset L j i = L i:=by simp [lset,h]
theorem lput {a : Act} {d t : Nat} {v : Value} (h : t ≠ d) : (a.put (some d) v).tmps[t]? = a.tmps[t]?:=by
  simp only [Act.put]
  rw [Array.getElem?_setIfInBounds_ne (Ne.symm h)]
theorem lput_at {a : Act} {d : Nat} {v : Value} (h : d < a.tmps.size) : (a.put (some d) v).tmps[d]? = some v:=by
  simp [Act.put,h]
theorem LI.of {a : Act} {w : World} {j : Nat} {o : Oper} (ho : lops[j]? = some o) (hg : o.guard.isNone = true) {Q : Exit→Act→World→Prop} {K : Act→World→Prop}
    (hrun : (∃ v w',(execOp a.eval o).run Tryz.prog w = .ok (.value v) w' ∧ K (a.put o.dst v) w') ∨ ∃ w',(execOp a.eval o).run Tryz.prog w = .ok .skip w' ∧ K (a.put o.dst undef) w') : wpOp Tryz.prog lops Q j K a w:=by
  unfold wpOp
  rw [ho]
  simp only
  rw [if_pos (by cases hgo : o.guard with | none=>simp [Region.wanted,hgo] | some x=>rw [hgo] at hg; cases hg)]
  refine .inl ?_
  unfold Oper.wp
  rcases hrun with ⟨v,w',h1,h2⟩ | ⟨w',h1,h2⟩
  · rw [h1]; exact h2
  · rw [h1]; exact h2
theorem LI.step {w0 : World} {L : Nat→Bool} {a : Act} {w : World} (h : LI w0 L a w) {j : Nat} (hL : L j = false) {o : Oper} (ho : lops[j]? = some o) (hpre : ∀ k ∈ binding o,L k = true) (Q : Exit→Act→World→Prop) (K : Act→World→Prop)
    (hK : ∀ a' w',LI w0 (lset L j) a' w'→K a' w') : wpOp Tryz.prog lops Q j K a w:=by
  have hj : j < 13:=by rw [← lop_size]; exact (Array.getElem?_eq_some_iff.1 ho).1
  have h8:=h.size
  have hcase : j = 0 ∨ (∃ i,i < 5 ∧ j = 2 * i + 1) ∨ (∃ i,i < 5 ∧ j = 2 * i + 2) ∨ j = 11 ∨ j = 12:=by
    rcases Nat.lt_or_ge j 11 with h11 | h11
    · by_cases h2 : j % 2 = 1
      · exact .inr (.inl ⟨j / 2,by omega,by omega⟩)
      · by_cases h0 : j = 0
        · exact .inl h0
        · exact .inr (.inr (.inl ⟨j / 2 - 1,by omega,by omega⟩))
    · omega
  rcases hcase with rfl | ⟨i,hi,rfl⟩ | ⟨i,hi,rfl⟩ | rfl | rfl
  · obtain ⟨o',ho',hop,hd,hg,_⟩:=lsig_of ls0
    rw [ho] at ho'; cases ho'
    have hm:=h.m0 hL
    refine LI.of ho hg (.inl ⟨.map (some w.heap.size),w.alloc (.map #[] 0),?_,hK _ _ ?_⟩)
    · simp only [execOp,hop,Option.map_none,Instr.makeMap,Sem.run_bind,Result.andThen_ok,run_newObj,Sem.run_pure,World.alloc_eq]
    · rw [hd,hm]
      refine ⟨h.defers,by simp [Act.put,h.size],h.os,h.tape,h.output,fun h0=>?_,fun _=>⟨lput_at (by omega),#[],0,?_,fun p=>?_⟩,fun i hi hl=>?_,fun hl=>?_,fun hl=>?_,fun h0=>?_⟩
      · rw [lset_at] at h0; cases h0
      · show w.heap.push _ = _; rw [hm]
      · constructor
        · intro hp; simp at hp
        · rintro ⟨i,hi,hl,_⟩
          rw [lset_ne _ (by omega),h.no hL i hi] at hl; cases hl
      · rw [lput (by omega)]; exact h.bd i hi (by rw [lset_ne _ (by omega)] at hl; exact hl)
      · rw [lput (by omega)]; exact h.mv (by rw [lset_ne _ (by omega)] at hl; exact hl)
      · rw [lput (by omega)]; exact h.asg (by rw [lset_ne _ (by omega)] at hl; exact hl)
      · rw [lset_at] at h0; cases h0
  · have hb:=lbd i hi
    obtain ⟨o',ho',hop,hd,hg,_⟩:=lsig_of (lsB i hi)
    rw [ho] at ho'; cases ho'
    refine LI.of ho hg (.inl ⟨lkey i,w,?_,hK _ _ ?_⟩)
    · simp only [execOp,hop,Sem.run_bind,hb a w,Result.andThen_ok,Sem.run_pure]
    · rw [hd]
      refine ⟨h.defers,by simp [Act.put,h.size],h.os,h.tape,h.output,fun h0=>?_,fun h0=>?_,fun k hk hl=>?_,fun hl=>?_,fun hl=>?_,fun h0 k hk=>?_⟩
      · exact h.m0 (by rw [lset_ne _ (by omega)] at h0; exact h0)
      · obtain ⟨h1,es,c,h2,h3⟩:=h.m1 (by rw [lset_ne _ (by omega)] at h0; exact h0)
        refine ⟨by rw [lput (by omega)]; exact h1,es,c,h2,fun p=>(h3 p).trans ⟨?_,?_⟩⟩
        · rintro ⟨k,k1,k2,k3⟩; exact ⟨k,k1,by rw [lset_ne _ (by omega)]; exact k2,k3⟩
        · rintro ⟨k,k1,k2,k3⟩; exact ⟨k,k1,by rw [lset_ne _ (by omega)] at k2; exact k2,k3⟩
      · by_cases e : k = i
        · subst e; exact lput_at (by omega)
        · rw [lput (by omega)]; exact h.bd k hk (by rw [lset_ne _ (by omega)] at hl; exact hl)
      · rw [lput (by omega)]; exact h.mv (by rw [lset_ne _ (by omega)] at hl; exact hl)
      · rw [lput (by omega)]; exact h.asg (by rw [lset_ne _ (by omega)] at hl; exact hl)
      · rw [lset_ne _ (by omega)]; exact h.no (by rw [lset_ne _ (by omega)] at h0; exact h0) k hk
  · obtain ⟨o',ho',hop,hd,hg,hbind⟩:=lsig_of (lsI i hi)
    rw [ho] at ho'; cases ho'
    have h0 : L 0 = true:=hpre 0 (by rw [hbind]; simp)
    have hb : L (2 * i + 1) = true:=hpre _ (by rw [hbind]; simp)
    obtain ⟨h1,es,c,h2,h3⟩:=h.m1 h0
    have hkey:=h.bd i hi hb
    have hr : w.heap[w0.heap.size]? = some (.map es c):=by rw [h2]; simp
    have hapart : ∀ e ∈ es.toList,eqT Tryz.prog 100 254 (lkey i) e.key = some false:=by
      intro e he
      obtain ⟨k,k1,k2,k3⟩:=(h3 (kvOf e)).1 (List.mem_map.2 ⟨e,he,rfl⟩)
      have hk : e.key = lkey k:=by have:=congrArg Prod.fst k3; exact this
      rw [hk]
      refine lkey_apart i k hi k1 fun e2=>?_
      subst e2
      rw [hL] at k2; cases k2
    have e1 : a.eval (.tmp 1) = .map (some w0.heap.size):=by simp [Act.eval,h1]
    have e2 : a.eval (.tmp (2 + i)) = lkey i:=by simp [Act.eval,hkey]
    have e3 : a.eval (.const lone) = lone:=rfl
    refine LI.of ho hg (.inr ⟨_,by simp only [execOp,hop,e1,e2,e3,Sem.run_bind,linsert hi hr hapart,Result.andThen_ok,Sem.run_pure]; rfl,hK _ _ ?_⟩)
    rw [hd]
    refine ⟨h.defers,h.size,h.os,h.tape,h.output,fun h0'=>?_,fun _=>⟨h1,es.push { key:=lkey i,val:=lone,born:=c },c + 1,?_,fun p=>?_⟩,fun k hk hl=>?_,fun hl=>?_,fun hl=>?_,fun h0' k hk=>?_⟩
    · rw [lset_ne _ (by omega),h0] at h0'; cases h0'
    · show w.heap.setIfInBounds w0.heap.size _ = _
      rw [h2]
      apply Array.ext'
      simp
    · simp only [Array.toList_push,List.map_append,List.map_cons,List.map_nil,List.mem_append,List.mem_singleton]
      rw [h3 p]
      constructor
      · rintro (⟨k,k1,k2,k3⟩ | e)
        · refine ⟨k,k1,?_,k3⟩
          by_cases e : k = i
          · subst e; exact lset_at _ _
          · rw [lset_ne _ (by omega)]; exact k2
        · exact ⟨i,hi,lset_at _ _,e⟩
      · rintro ⟨k,k1,k2,k3⟩
        by_cases e : k = i
        · subst e; exact .inr k3
        · exact .inl ⟨k,k1,by rw [lset_ne _ (by omega)] at k2; exact k2,k3⟩
    · exact h.bd k hk (by rw [lset_ne _ (by omega)] at hl; exact hl)
    · exact h.mv (by rw [lset_ne _ (by omega)] at hl; exact hl)
    · exact h.asg (by rw [lset_ne _ (by omega)] at hl; exact hl)
    · rw [lset_ne _ (by omega),h0] at h0'; cases h0'
  · obtain ⟨o',ho',hop,hd,hg,hbind⟩:=lsig_of lsM
    rw [ho] at ho'; cases ho'
    have h0 : L 0 = true:=hpre 0 (by rw [hbind]; simp)
    obtain ⟨h1,es,c,h2,h3⟩:=h.m1 h0
    have e1 : a.eval (.tmp 1) = .map (some w0.heap.size):=by simp [Act.eval,h1]
    refine LI.of ho hg (.inl ⟨.map (some w0.heap.size),w,by simp only [execOp,hop,e1,Sem.run_pure],hK _ _ ?_⟩)
    rw [hd]
    refine ⟨h.defers,by simp [Act.put,h.size],h.os,h.tape,h.output,fun h0'=>?_,fun _=>⟨by rw [lput (by omega)]; exact h1,es,c,h2,fun p=>(h3 p).trans ⟨?_,?_⟩⟩,fun k hk hl=>?_,fun hl=>?_,fun hl=>?_,fun h0' k hk=>?_⟩
    · rw [lset_ne _ (by omega),h0] at h0'; cases h0'
    · rintro ⟨k,k1,k2,k3⟩; exact ⟨k,k1,by rw [lset_ne _ (by omega)]; exact k2,k3⟩
    · rintro ⟨k,k1,k2,k3⟩; exact ⟨k,k1,by rw [lset_ne _ (by omega)] at k2; exact k2,k3⟩
    · rw [lput (by omega)]; exact h.bd k hk (by rw [lset_ne _ (by omega)] at hl; exact hl)
    · exact lput_at (by omega)
    · rw [lput (by omega)]; exact h.asg (by rw [lset_ne _ (by omega)] at hl; exact hl)
    · rw [lset_ne _ (by omega),h0] at h0'; cases h0'
  · obtain ⟨o',ho',hop,hd,hg,hbind⟩:=lsig_of lsA
    rw [ho] at ho'; cases ho'
    have h0 : L 0 = true:=hpre 0 (by rw [hbind]; simp)
    have h11 : L 11 = true:=hpre 11 (by rw [hbind]; simp)
    obtain ⟨h1,es,c,h2,h3⟩:=h.m1 h0
    have e1 : a.eval (.tmp 7) = .map (some w0.heap.size):=by simp [Act.eval,h.mv h11]
    refine LI.of ho hg (.inl ⟨.map (some w0.heap.size),w,by simp only [execOp,hop,e1,Sem.run_pure],hK _ _ ?_⟩)
    rw [hd]
    refine ⟨h.defers,by simp [Act.put,h.size],h.os,h.tape,h.output,fun h0'=>?_,fun _=>⟨by rw [lput (by omega)]; exact h1,es,c,h2,fun p=>(h3 p).trans ⟨?_,?_⟩⟩,fun k hk hl=>?_,fun hl=>?_,fun hl=>?_,fun h0' k hk=>?_⟩
    · rw [lset_ne _ (by omega),h0] at h0'; cases h0'
    · rintro ⟨k,k1,k2,k3⟩; exact ⟨k,k1,by rw [lset_ne _ (by omega)]; exact k2,k3⟩
    · rintro ⟨k,k1,k2,k3⟩; exact ⟨k,k1,by rw [lset_ne _ (by omega)] at k2; exact k2,k3⟩
    · rw [lput (by omega)]; exact h.bd k hk (by rw [lset_ne _ (by omega)] at hl; exact hl)
    · rw [lput (by omega)]; exact h.mv (by rw [lset_ne _ (by omega)] at hl; exact hl)
    · exact lput_at (by omega)
    · rw [lset_ne _ (by omega),h0] at h0'; cases h0'
theorem least_of (p : Nat→Prop) (h : ∃ i,p i) : ∃ i,p i ∧ ∀ k,k < i→¬ p k:=by
  obtain ⟨i,hi⟩:=h
  induction i using Nat.strongRecOn with
  | ind i ih =>
    by_cases hk : ∃ k,k < i ∧ p k
    · obtain ⟨k,h1,h2⟩:=hk
      exact ih k h1 h2
    · exact ⟨i,hi,fun k h1 h2=>hk ⟨k,h1,h2⟩⟩
theorem ledges (i : Nat) (o : Oper) (h : lops[i]? = some o) : ∀ k ∈ binding o,k < i:=by
  have hed : edgesOk 0 lops.toList = true:=by kernel_rfl
  intro k hk
  have:=edgesOk_spec _ 0 hed i o (by simpa using h) k hk
  omega
theorem filter_set : ∀ (l : List Bool) (j : Nat) (h : j < l.length),l[j] = false→((l.set j true).filter (!·)).length + 1 = (l.filter (!·)).length
  | [],j,h,_=>by simp at h
  | b :: l,0,_,hb=>by simp at hb; subst hb; simp
  | b :: l,j + 1,h,hb=>by
    have ih:=filter_set l j (by simpa using h) (by simpa using hb)
    cases b <;> simp <;> omega
theorem LI.all {w0 : World} (Q : Exit→Act→World→Prop) (hQ : ∀ L a w,LI w0 L a w→(∀ i,i < 13→L i = true)→Q .normal a w) : ∀ (n : Nat) (ls : Array Bool) (a : Act) (w : World),ls.size = 13→(ls.toList.filter (!·)).length = n →
    LI w0 (fun i=>ls.getD i true) a w→wpAny Tryz.prog .any lops Q n ls a w
  | 0,ls,a,w,hs,hn,h=>by
    have hall : ∀ i,i < 13→ls.getD i true = true:=by
      intro i hi
      have hlt : i < ls.size:=by omega
      cases hv : ls.getD i true with
      | true=>rfl
      | false =>
        have hv2 : ls[i] = false:=by simpa [hlt] using hv
        have : (false : Bool) ∈ ls.toList.filter (!·):=by
          rw [List.mem_filter]
          exact ⟨by rw [← hv2]; exact Array.mem_toList_iff.2 (Array.getElem_mem hlt),rfl⟩
        rw [List.eq_nil_of_length_eq_zero hn] at this
        cases this
    refine ⟨?_,hQ _ a w h hall⟩
    cases hr : Region.ready .any lops ls with
    | nil=>rfl
    | cons j r =>
      have hj : j ∈ Region.ready .any lops ls:=by rw [hr]; simp
      obtain ⟨h1,o,h2,_⟩:=mem_ready.1 hj
      have : j < 13:=by rw [← lop_size]; exact (Array.getElem?_eq_some_iff.1 h2).1
      rw [hall j this] at h1; cases h1
  | n + 1,ls,a,w,hs,hn,h=>by
    refine ⟨fun h0=>?_,fun j hj=>?_⟩
    · exfalso
      -- the first that isn't listed is ready
      have hex : ∃ i,i < 13 ∧ ls.getD i true = false:=by
        have : ∃ b,b ∈ ls.toList.filter (!·):=List.exists_mem_of_length_pos (by omega)
        obtain ⟨b,hb⟩:=this
        rw [List.mem_filter] at hb
        obtain ⟨hb1,hb2⟩:=hb
        obtain ⟨i,hi,e⟩:=List.getElem_of_mem hb1
        have hi2 : i < ls.size:=by simpa using hi
        refine ⟨i,by omega,?_⟩
        have e2 : ls[i] = b:=by simpa using e
        have hbf : b = false:=by cases b <;> simp_all
        simp [hi2,e2,hbf]
      obtain ⟨i,⟨hi,hv⟩,hmin⟩:=least_of (fun i=>i < 13 ∧ ls.getD i true = false) hex
      have ho : lops[i]? = some lops[i]:=Array.getElem?_eq_getElem (by rw [lop_size]; exact hi)
      have hb:=ledges i lops[i] ho
      have : i ∈ Region.ready .any lops ls:=by
        refine mem_ready.2 ⟨hv,_,ho,fun e he hbd=>?_⟩
        have hlt:=hb e.on (mem_binding.2 ⟨e,he,hbd,rfl⟩)
        cases hvv : ls.getD e.on true with
        | true =>
          have h13 : e.on < ls.size:=by omega
          simpa [h13] using hvv
        | false=>exact absurd ⟨by omega,hvv⟩ (hmin e.on hlt)
      rw [h0] at this
      cases this
    · obtain ⟨h1,o,h2,h3⟩:=mem_ready.1 hj
      have hlt : j < 13:=by rw [← lop_size]; exact (Array.getElem?_eq_some_iff.1 h2).1
      have hjs : j < ls.size:=by omega
      have hpre : ∀ k ∈ binding o,(fun i=>ls.getD i true) k = true:=by
        intro k hk
        obtain ⟨e,h4,h5,rfl⟩:=mem_binding.1 hk
        have:=h3 e h4 h5
        by_cases hks : e.on < ls.size
        · simpa [hks] using this
        · simp [hks]
      refine h.step h1 h2 hpre Q _ fun a' w' h'=>?_
      refine LI.all Q hQ n _ a' w' (by simpa using hs) ?_ ?_
      · have hvj : ls[j] = false:=by simpa [hjs] using h1
        have:=filter_set ls.toList j (by simpa using hjs) (by simpa using hvj)
        rw [hn] at this
        simpa [Array.setIfInBounds,hjs] using this
      · have e : (fun i=>(ls.setIfInBounds j true).getD i true) = lset (fun i=>ls.getD i true) j:=by
          funext i
          by_cases e : i = j
          · subst e; rw [lset_at]; simp [hjs]
          · rw [lset_ne _ e,getD_set_ne true (Ne.symm e)]
        rw [e]
        exact h'
end Go.Ab
namespace Go.Ab
open Go Go.Proofs
section
variable {P : Program} {N : Nat}
theorem any_inv {ops : Array Oper} {m : Nat} (hm : ops.size = m) (hedge : ∀ (i : Nat) (o : Oper),ops[i]? = some o→∀ k ∈ binding o,k < i) (Inv : (Nat→Bool)→Act→World→Prop) (Q : Exit→Act→World→Prop)
    (step : ∀ (L : Nat→Bool) (j : Nat) (o : Oper) (a : Act) (w : World),L j = false→ops[j]? = some o→(∀ k ∈ binding o,L k = true)→Inv L a w→∀ K : Act→World→Prop,(∀ a' w',Inv (lset L j) a' w'→K a' w')→wpOp P ops Q j K a w)
    (hQ : ∀ L a w,Inv L a w→(∀ i,i < m→L i = true)→Q .normal a w) : ∀ (n : Nat) (ls : Array Bool) (a : Act) (w : World),ls.size = m→(ls.toList.filter (!·)).length = n →
    Inv (fun i=>ls.getD i true) a w→wpAny P .any ops Q n ls a w
  | 0,ls,a,w,hs,hn,h=>by
    have hall : ∀ i,i < m→ls.getD i true = true:=by
      intro i hi
      have hlt : i < ls.size:=by omega
      cases hv : ls.getD i true with
      | true=>rfl
      | false =>
        have hv2 : ls[i] = false:=by simpa [hlt] using hv
        have : (false : Bool) ∈ ls.toList.filter (!·):=by
          rw [List.mem_filter]
          exact ⟨by rw [← hv2]; exact Array.mem_toList_iff.2 (Array.getElem_mem hlt),rfl⟩
        rw [List.eq_nil_of_length_eq_zero hn] at this
        cases this
    refine ⟨?_,hQ _ a w h hall⟩
    cases hr : Region.ready .any ops ls with
    | nil=>rfl
    | cons j r =>
      have hj : j ∈ Region.ready .any ops ls:=by rw [hr]; simp
      obtain ⟨h1,o,h2,_⟩:=mem_ready.1 hj
      have : j < m:=by rw [← hm]; exact (Array.getElem?_eq_some_iff.1 h2).1
      rw [hall j this] at h1; cases h1
  | n + 1,ls,a,w,hs,hn,h=>by
    refine ⟨fun h0=>?_,fun j hj=>?_⟩
    · exfalso
      have hex : ∃ i,i < m ∧ ls.getD i true = false:=by
        have : ∃ b,b ∈ ls.toList.filter (!·):=List.exists_mem_of_length_pos (by omega)
        obtain ⟨b,hb⟩:=this
        rw [List.mem_filter] at hb
        obtain ⟨hb1,hb2⟩:=hb
        obtain ⟨i,hi,e⟩:=List.getElem_of_mem hb1
        have hi2 : i < ls.size:=by simpa using hi
        refine ⟨i,by omega,?_⟩
        have e2 : ls[i] = b:=by simpa using e
        have hbf : b = false:=by cases b <;> simp_all
        simp [hi2,e2,hbf]
      obtain ⟨i,⟨hi,hv⟩,hmin⟩:=least_of (fun i=>i < m ∧ ls.getD i true = false) hex
      have ho : ops[i]? = some ops[i]:=Array.getElem?_eq_getElem (by rw [hm]; exact hi)
      have hb:=hedge i ops[i] ho
      have : i ∈ Region.ready .any ops ls:=by
        refine mem_ready.2 ⟨hv,_,ho,fun e he hbd=>?_⟩
        have hlt:=hb e.on (mem_binding.2 ⟨e,he,hbd,rfl⟩)
        cases hvv : ls.getD e.on true with
        | true =>
          have h13 : e.on < ls.size:=by omega
          simpa [h13] using hvv
        | false=>exact absurd ⟨by omega,hvv⟩ (hmin e.on hlt)
      rw [h0] at this
      cases this
    · obtain ⟨h1,o,h2,h3⟩:=mem_ready.1 hj
      have hlt : j < m:=by rw [← hm]; exact (Array.getElem?_eq_some_iff.1 h2).1
      have hjs : j < ls.size:=by omega
      have hpre : ∀ k ∈ binding o,(fun i=>ls.getD i true) k = true:=by
        intro k hk
        obtain ⟨e,h4,h5,rfl⟩:=mem_binding.1 hk
        have:=h3 e h4 h5
        by_cases hks : e.on < ls.size
        · simpa [hks] using this
        · simp [hks]
      refine step _ j o a w h1 h2 hpre h _ fun a' w' h'=>?_
      refine any_inv hm hedge Inv Q step hQ n _ a' w' (by simpa using hs) ?_ ?_
      · have hvj : ls[j] = false:=by simpa [hjs] using h1
        have:=filter_set ls.toList j (by simpa using hjs) (by simpa using hvj)
        rw [hn] at this
        simpa [Array.setIfInBounds,hjs] using this
      · have e : (fun i=>(ls.setIfInBounds j true).getD i true) = lset (fun i=>ls.getD i true) j:=by
          funext i
          by_cases e : i = j
          · subst e; rw [lset_at]; simp [hjs]
          · rw [lset_ne _ e,getD_set_ne true (Ne.symm e)]
        rw [e]
        exact h'
def normSt (s : St) : St:=⟨s.tmps,s.heap,s.lo,s.hi,s.step,[]⟩
abbrev opGo (P : Program) (E : Env) (N : Nat) (ops : Array Oper) (o : Oper) (s : St) : Option St:=opsRun P (callN P E 4 St) (isSum E.gam) N ops [o] s [] fun s' _=>some (normSt s')
theorem step_op {E : Env} (hG : GamOk P E.gam) {ops : Array Oper} {j : Nat} {o : Oper} (ho : ops[j]? = some o) {s s1 : St} (h : opGo P E N ops o s = some s1) (hle : s1.lo ≤ s.hi ∨ s1.lo = s.lo) {w0 : World} {own : Nat→Prop} {σ0 : Nat→Option Nat} {lo0 hi0 : Nat} {a : Act} {w : World}
    (hst : StFits N w0 own σ0 lo0 hi0 s a w) (Q : Exit→Act→World→Prop) (K : Act→World→Prop) (hK : ∀ a' w',StFits N w0 own σ0 lo0 hi0 s1 a' w'→K a' w') : wpOp P ops Q j K a w:=by
  obtain ⟨items,s',h1,h2,h3,h4,h5,h6,_,_⟩:=opsRun_sound (callN_ok hG 4 St) [o] j s [] h (fun k o' hk=>by
    cases k with
    | zero=>simp at hk; subst hk; exact ho
    | succ k=>simp at hk)
  simp only [Option.some.injEq] at h1
  subst h1
  cases items with
  | nil=>simp at h3
  | cons it r =>
    cases r with
    | cons x y=>simp at h3
    | nil =>
      have hi : it.i = j:=by have:=h4 0 it rfl; omega
      obtain ⟨k1,k2,k3⟩:=h5
      simp only [Ranged] at k3
      obtain ⟨σ,u,hf,hs,hn,hle0,hout,hlo,hhi⟩:=hst
      obtain ⟨u',hc,hs'⟩:=h2 u hs
      simp only [Chain] at hc
      obtain ⟨c1,c2,c3⟩:=hc
      subst c3
      rw [← hi]
      have hlo' : s'.lo ≤ s.hi ∨ s'.lo = s.lo:=hle
      refine c2 Q w0 own σ u a w hf c1 (fun b hb1 hb2=>hn b (by omega) (by omega)) K fun σ' a' w' q1 q2 q3=>hK a' w' ⟨σ',_,q3,hs',fun b hb1 hb2=>?_,hle0.trans q1,fun b hb hb'=>?_,?_,?_⟩
      · have hb1 : s'.lo ≤ b:=hb1
        have hb2 : b < s'.hi:=hb2
        rw [h6] at hb2
        exact q2 b (hn b (by omega) hb2) (.inr (by omega))
      · refine q2 b (hout b hb hb') ?_
        omega
      · show lo0 ≤ s'.lo
        omega
      · show s'.hi ≤ hi0
        omega
theorem StFits.retell {w0 : World} {own : Nat→Prop} {σ0 : Nat→Option Nat} {lo0 hi0 : Nat} {s s1 : St} {a : Act} {w : World} (h : StFits N w0 own σ0 lo0 hi0 s a w) (m : Nat) {ob ob1 : Obj} (hm : hget s.heap m = some (.obj ob)) (hd : ∀ o,Den ob o→Den ob1 o)
    (ht : s1.tmps = s.tmps) (hh : ∀ b c,hget s1.heap b = some c→(b = m ∧ c = .obj ob1) ∨ hget s.heap b = some c) (hlo : s1.lo = s.lo) (hhi : s1.hi = s.hi) : StFits N w0 own σ0 lo0 hi0 s1 a w:=by
  obtain ⟨σ,u,hf,hs,hn,hle0,hout,h1,h2⟩:=h
  have hw:=hf.sub hs
  refine ⟨σ,s1.u,?_,Sub.refl _,by rw [hlo,hhi]; exact hn,hle0,hout,by rw [hlo]; exact h1,by rw [hhi]; exact h2⟩
  have hum : s.u (.blk m) = some (.obj ob):=hm
  have hcase : ∀ b c,s1.u (.blk b) = some c→(b = m ∧ c = .obj ob1) ∨ s.u (.blk b) = some c:=fun b c hb=>hh b c hb
  have htmp : ∀ t,s1.u (.tmp t) = s.u (.tmp t):=fun t=>by show (s1.tmps[t]?).map _ = (s.tmps[t]?).map _; rw [ht]
  refine { hw with tmp:=fun t v k=>hw.tmp t v (by rw [← htmp]; exact k),row:=fun b e cs k=>?_,obj:=fun b o k=>?_,ownsR:=fun b e cs r k hr=>?_,ownsO:=fun b o r k hr=>?_ }
  · rcases hcase _ _ k with ⟨_,k2⟩ | k2
    · cases k2
    · exact hw.row b e cs k2
  · rcases hcase _ _ k with ⟨rfl,k2⟩ | k2
    · cases k2
      obtain ⟨r,o',p1,p2,p3⟩:=hw.obj b ob hum
      exact ⟨r,o',p1,p2,hd o' p3⟩
    · exact hw.obj b o k2
  · rcases hcase _ _ k with ⟨_,k2⟩ | k2
    · cases k2
    · exact hw.ownsR b e cs r k2 hr
  · rcases hcase _ _ k with ⟨rfl,k2⟩ | k2
    · exact hw.ownsO b ob r hum hr
    · exact hw.ownsO b o r k2 hr
end
end Go.Ab
namespace Go.Ab
theorem pull {ω : Type} [Cod ω] {c : Bool} {x y : ω} {e : TypeId} {b : Bool} : (bif c then some (AV.val (Cod.enc x),row e b) else some (AV.val (Cod.enc y),row e b)) = some (AV.val (Cod.enc (bif c then x else y)),row e b):=by cases c <;> rfl
def V3.zero : V3:=⟨0,0,0⟩
def each3 (b : Bool) (g : Bool→Int × Bool) (h : Bool→Int × Bool) (k : Bool→Int × Bool) : V3 × Bool :=
  (⟨(g b).1,(h (g b).2).1,(k (h (g b).2).2).1⟩,(k (h (g b).2).2).2)
def done3 (r : V3 × Bool) : V3 × Bool:=(bif r.2 then V3.zero else r.1,r.2)
def vop (g : Bool→Int→Int→Int × Bool) (b : Bool) (p : V3 × V3 × Unit) : V3 × Bool :=
  done3 (each3 b (fun b=>g b p.1.x p.2.1.x) (fun b=>g b p.1.y p.2.1.y) (fun b=>g b p.1.z p.2.1.z))
end Go.Ab
namespace Go.Ab
def num (x : Int) : Bool:=decide (x ≤ 4611686018427387904) && decide (-4611686018427387904 ≤ x)
theorem wrap_i64 (z : Int) : IntKind.i64.wrap z = (z + 9223372036854775808) % 18446744073709551616 - 9223372036854775808:=by
  have : IntKind.i64.wrap z = if z % 18446744073709551616 ≥ 9223372036854775808 then z % 18446744073709551616 - 18446744073709551616 else z % 18446744073709551616:=by
    simp [IntKind.wrap,IntKind.bits,IntKind.signed]
  rw [this]
  split <;> omega
theorem wrap_u64 (z : Int) : IntKind.u64.wrap z = z % 18446744073709551616:=by
  simp [IntKind.wrap,IntKind.bits,IntKind.signed]
theorem wrap_i64_id {z : Int} (h1 : -9223372036854775808 ≤ z) (h2 : z < 9223372036854775808) : IntKind.i64.wrap z = z:=by rw [wrap_i64]; omega
theorem wrap_u64_id {z : Int} (h1 : 0 ≤ z) (h2 : z < 18446744073709551616) : IntKind.u64.wrap z = z:=by rw [wrap_u64]; omega
def fadd (b : Bool) (x y : Int) : Int × Bool:=bif !b && (num x && (num y && num (x + y))) then (x + y,false) else (0,true)
def fsub (b : Bool) (x y : Int) : Int × Bool:=bif !b && (num x && (num y && num (x - y))) then (x - y,false) else (0,true)
theorem num_iff {x : Int} : num x = true ↔ -4611686018427387904 ≤ x ∧ x ≤ 4611686018427387904:=by simp [num]; omega
theorem tdiv2 (x : Int) : x.tdiv 2 = if 0 ≤ x then x / 2 else -((-x) / 2):=by
  have h2 : Int.sign 2 = 1:=rfl
  rw [Int.tdiv_eq_ediv,h2]
  split <;> split <;> omega
theorem tmod2 (x : Int) : x.tmod 2 = if 0 ≤ x then x % 2 else -((-x) % 2):=by
  have h:=Int.tmod_add_mul_tdiv x 2
  rw [tdiv2] at h
  split at h <;> split <;> omega
theorem half_sum {x y : Int} (hx1 : -4611686018427387904 ≤ x) (hx2 : x ≤ 4611686018427387904) (hy1 : -4611686018427387904 ≤ y) (hy2 : y ≤ 4611686018427387904) :
    IntKind.i64.wrap (IntKind.i64.wrap (IntKind.i64.wrap (x.tdiv 2) + IntKind.i64.wrap (y.tdiv 2)) + IntKind.i64.wrap ((IntKind.i64.wrap (x.tmod 2 + y.tmod 2)).tdiv 2)) = x.tdiv 2 + y.tdiv 2 + (x.tmod 2 + y.tmod 2).tdiv 2:=by
  have b1:=tdiv2 x
  have b2:=tdiv2 y
  have b3:=tmod2 x
  have b4:=tmod2 y
  have a1 : -2305843009213693952 ≤ x.tdiv 2 ∧ x.tdiv 2 ≤ 2305843009213693952:=by constructor <;> omega
  have a2 : -2305843009213693952 ≤ y.tdiv 2 ∧ y.tdiv 2 ≤ 2305843009213693952:=by constructor <;> omega
  have a3 : -1 ≤ x.tmod 2 ∧ x.tmod 2 ≤ 1:=by constructor <;> omega
  have a4 : -1 ≤ y.tmod 2 ∧ y.tmod 2 ≤ 1:=by constructor <;> omega
  have b5:=tdiv2 (x.tmod 2 + y.tmod 2)
  rw [wrap_i64_id (z:=x.tdiv 2) (by omega) (by omega),wrap_i64_id (z:=y.tdiv 2) (by omega) (by omega),wrap_i64_id (z:=x.tmod 2 + y.tmod 2) (by omega) (by omega),
    wrap_i64_id (z:=(x.tmod 2 + y.tmod 2).tdiv 2) (by omega) (by omega),wrap_i64_id (z:=x.tdiv 2 + y.tdiv 2) (by omega) (by omega),wrap_i64_id (by omega) (by omega)]
end Go.Ab
namespace Go.Ab
def dpre : List Int→Bool
  | [y1,y0,u,q,r]=>decide (2147483648 ≤ y1 ∧ y1 < 4294967296 ∧ 0 ≤ y0 ∧ y0 < 4294967296 ∧ 0 ≤ u ∧ u < 4294967296 ∧ 0 ≤ q ∧ q < 18446744073709551616 ∧ 0 ≤ r ∧ r < 4294967296 ∧ q * y1 + r < y1 * 4294967296 + y0 ∧ u + r * 4294967296 < q * y0 + y1 * 4294967296 + y0)
  | _=>false
def digit (y1 y0 u U : Int) : Int:=(U * 4294967296 + u) / (y1 * 4294967296 + y0)
def dpostV (Q R : Int→Int→Int→Int→Int→Int) : List Int→List Int
  | [y1,y0,u,q,r]=>[y1,y0,u,Q y1 y0 u q r,R y1 y0 u q r]
  | l=>l
def dpost : List Int→List Int:=dpostV (fun y1 y0 u q r=>digit y1 y0 u (q * y1 + r)) (fun y1 y0 u q r=>q * y1 + r - digit y1 y0 u (q * y1 + r) * y1)
theorem le_digit {y1 y0 u U q : Int} (hy : 0 < y1 * 4294967296 + y0) : q ≤ digit y1 y0 u U ↔ q * y1 * 4294967296 + q * y0 ≤ U * 4294967296 + u:=by
  unfold digit
  rw [Int.le_ediv_iff_mul_le hy,Int.mul_add,← Int.mul_assoc]
theorem digit_of {y1 y0 u U q : Int} (hy : 0 < y1 * 4294967296 + y0) (h1 : q * y1 * 4294967296 + q * y0 ≤ U * 4294967296 + u) (h2 : U * 4294967296 + u < q * y1 * 4294967296 + q * y0 + y1 * 4294967296 + y0) : digit y1 y0 u U = q:=by
  have a:=(le_digit (q:=q) (u:=u) (U:=U) hy).2 h1
  have b : ¬ (q + 1 ≤ digit y1 y0 u U):=by
    rw [le_digit hy,Int.add_mul,Int.add_mul,Int.add_mul]
    omega
  omega
theorem dstep {y1 y0 u q r : Int} (h : dpre [y1,y0,u,q,r] = true) :
    (q ≥ 4294967296 ∨ q * y0 > 4294967296 * r + u→1 ≤ q ∧ (r + y1 ≥ 4294967296→dpost [y1,y0,u,q,r] = [y1,y0,u,q - 1,r + y1]) ∧ (r + y1 < 4294967296→dpre [y1,y0,u,q - 1,r + y1] = true ∧ dpost [y1,y0,u,q - 1,r + y1] = dpost [y1,y0,u,q,r])) ∧
    (q < 4294967296→q * y0 ≤ 4294967296 * r + u→dpost [y1,y0,u,q,r] = [y1,y0,u,q,r]):=by
  simp only [dpre,decide_eq_true_eq] at h
  obtain ⟨a1,a2,a3,a4,a5,a6,a7,a8,a9,a10,a11,a12⟩:=h
  have hy : 0 < y1 * 4294967296 + y0:=by omega
  have e1 : (q - 1) * y1 = q * y1 - y1:=by rw [Int.sub_mul,Int.one_mul]
  have e2 : (q - 1) * y0 = q * y0 - y0:=by rw [Int.sub_mul,Int.one_mul]
  refine ⟨fun hc=>?_,fun hq hc=>?_⟩
  · have hq1 : 1 ≤ q:=by
      rcases hc with hc | hc
      · omega
      · rcases Int.lt_or_le 0 q with h | h
        · omega
        · have : q = 0:=by omega
          subst this
          omega
    -- the guess is too great
    have hgt : 4294967296 * r + u < q * y0:=by
      rcases hc with hc | hc
      · have b1 : 4294967296 * y1 ≤ q * y1:=Int.mul_le_mul_of_nonneg_right hc (by omega)
        have b2 : 4294967296 * y0 ≤ q * y0:=Int.mul_le_mul_of_nonneg_right hc (by omega)
        omega
      · omega
    refine ⟨hq1,fun hr=>?_,fun hr=>⟨?_,?_⟩⟩
    · -- it ends
      have hlt : (q - 1) * y1 < 4294967296 * y1:=by rw [e1]; omega
      have hq : q - 1 < 4294967296:=Int.lt_of_mul_lt_mul_right hlt (by omega)
      have b : (q - 1) * y0 ≤ 4294967296 * 4294967296:=Int.le_trans (Int.mul_le_mul_of_nonneg_right (by omega) a3) (Int.mul_le_mul_of_nonneg_left (by omega) (by omega))
      have hd : digit y1 y0 u (q * y1 + r) = q - 1:=by
        refine digit_of hy ?_ ?_ <;> rw [e1,e2] <;> omega
      simp only [dpost,dpostV,hd,e1]
      rw [show q * y1 + r - (q * y1 - y1) = r + y1 by omega]
    · simp only [dpre,decide_eq_true_eq,e1,e2]
      omega
    · simp only [dpost,dpostV,e1]
      rw [show q * y1 - y1 + (r + y1) = q * y1 + r by omega]
  · have hd : digit y1 y0 u (q * y1 + r) = q:=digit_of hy (by omega) (by omega)
    simp only [dpost,dpostV,hd]
    rw [show q * y1 + r - q * y1 = r by omega]
end Go.Ab
namespace Go.Ab
open Go Go.Proofs
def blkOf (f : Func) (id : Nat) : Code:=(((blocksOf (f.body.getD .skip)).find? (fun p=>Nat.beq p.1 id)).getD (0,.skip)).2
def loopOf : Code→Code | .loop c=>c | c=>c
def d64a : Slots:=[(9,.int .u64),(10,.int .u64),(13,.int .u64),(15,.int .u64),(16,.int .u64)]
def d64b : Slots:=[(9,.int .u64),(10,.int .u64),(14,.int .u64),(18,.int .u64),(16,.int .u64)]
def dtree (N id : Nat) (sl : Slots) (G : List Nat) (y1 y0 u q r : Int) (x : Nat→AV) (heap : Hp) (lo hi step : Nat) : Option (Ex × St) :=
  bif decide (q ≥ 4294967296) then
    bif decide (IntKind.u64.wrap (r + y1) ≥ 4294967296) then some (.exit id,lpSt N sl G [y1,y0,u,IntKind.u64.wrap (q - 1),IntKind.u64.wrap (r + y1)] x heap lo hi step)
    else some (.normal,lpSt N sl G [y1,y0,u,IntKind.u64.wrap (q - 1),IntKind.u64.wrap (r + y1)] x heap lo hi step)
  else bif decide (IntKind.u64.wrap (q * y0) > IntKind.u64.wrap (IntKind.u64.wrap (4294967296 * r) + u)) then
    bif decide (IntKind.u64.wrap (r + y1) ≥ 4294967296) then some (.exit id,lpSt N sl G [y1,y0,u,IntKind.u64.wrap (q - 1),IntKind.u64.wrap (r + y1)] x heap lo hi step)
    else some (.normal,lpSt N sl G [y1,y0,u,IntKind.u64.wrap (q - 1),IntKind.u64.wrap (r + y1)] x heap lo hi step)
  else some (.exit id,lpSt N sl G [y1,y0,u,q,r] x heap lo hi step)
theorem round0 (y1 y0 u q r : Int) (x : Nat→AV) (heap : Hp) (lo hi step : Nat) :
    run Tryz.prog (callN Tryz.prog { gam:=[] } 1) 135 {} [] 50 (Ex × St) (loopOf (blkOf Tryz.f205 0)) (lpSt 135 d64a (nums 67 19) [y1,y0,u,q,r] x heap lo hi step) (fun e s'=>some (e,maskSt (nums 67 19) s')) =
      dtree 135 0 d64a (nums 67 19) y1 y0 u q r x heap lo hi step:=by kernel_rfl
theorem round2 (y1 y0 u q r : Int) (x : Nat→AV) (heap : Hp) (lo hi step : Nat) :
    run Tryz.prog (callN Tryz.prog { gam:=[] } 1) 135 {} [] 50 (Ex × St) (loopOf (blkOf Tryz.f205 2)) (lpSt 135 d64b (nums 102 19) [y1,y0,u,q,r] x heap lo hi step) (fun e s'=>some (e,maskSt (nums 102 19) s')) =
      dtree 135 2 d64b (nums 102 19) y1 y0 u q r x heap lo hi step:=by kernel_rfl
theorem dtree_ok {N id : Nat} {sl : Slots} {G : List Nat} (hsl : shLen sl = 5) {F : List Int→(Nat→AV)→Hp→Nat→Nat→Nat→Option (Ex × St)}
    (hF : ∀ y1 y0 u q r x heap lo hi step,F [y1,y0,u,q,r] x heap lo hi step = dtree N id sl G y1 y0 u q r x heap lo hi step) :
    ∀ xs,xs.length = shLen sl→dpre xs = true→∀ x heap lo hi step,
      (∃ ys,ys.length = shLen sl ∧ dpre ys = true ∧ (ys.getD 3 0).toNat < (xs.getD 3 0).toNat ∧ dpost ys = dpost xs ∧ F xs x heap lo hi step = some (.normal,lpSt N sl G ys x heap lo hi step)) ∨
      F xs x heap lo hi step = some (.exit id,lpSt N sl G (dpost xs) x heap lo hi step):=by
  intro xs hlen hp x heap lo hi step
  rw [hsl] at hlen
  obtain ⟨y1,y0,u,q,r,rfl⟩ : ∃ y1 y0 u q r,xs = [y1,y0,u,q,r]:=by
    match xs,hlen with
    | [a,b,c,d,e],_=>exact ⟨a,b,c,d,e,rfl⟩
  obtain ⟨hs,he⟩:=dstep hp
  have hp':=hp
  simp only [dpre,decide_eq_true_eq] at hp'
  obtain ⟨a1,a2,a3,a4,a5,a6,a7,a8,a9,a10,a11,a12⟩:=hp'
  rw [hF]
  unfold dtree
  have w1 : IntKind.u64.wrap (r + y1) = r + y1:=wrap_u64_id (by omega) (by omega)
  rw [w1]
  have more : (q ≥ 4294967296 ∨ q * y0 > 4294967296 * r + u)→(∃ ys,ys.length = shLen sl ∧ dpre ys = true ∧ (ys.getD 3 0).toNat < ([y1,y0,u,q,r].getD 3 0).toNat ∧ dpost ys = dpost [y1,y0,u,q,r] ∧ (bif decide (r + y1 ≥ 4294967296) then some (Ex.exit id,lpSt N sl G [y1,y0,u,IntKind.u64.wrap (q - 1),r + y1] x heap lo hi step)
    else some (.normal,lpSt N sl G [y1,y0,u,IntKind.u64.wrap (q - 1),r + y1] x heap lo hi step)) = some (.normal,lpSt N sl G ys x heap lo hi step)) ∨ (bif decide (r + y1 ≥ 4294967296) then some (Ex.exit id,lpSt N sl G [y1,y0,u,IntKind.u64.wrap (q - 1),r + y1] x heap lo hi step)
    else some (.normal,lpSt N sl G [y1,y0,u,IntKind.u64.wrap (q - 1),r + y1] x heap lo hi step)) = some (.exit id,lpSt N sl G (dpost [y1,y0,u,q,r]) x heap lo hi step):=by
    intro hc
    obtain ⟨h1,h2,h3⟩:=hs hc
    rw [wrap_u64_id (z:=q - 1) (by omega) (by omega)]
    by_cases hr : r + y1 ≥ 4294967296
    · refine .inr ?_
      simp only [hr,decide_true,cond_true]
      rw [h2 hr]
    · refine .inl ⟨[y1,y0,u,q - 1,r + y1],by rw [hsl]; rfl,(h3 (by omega)).1,?_,(h3 (by omega)).2,?_⟩
      · simp only [List.getD_cons_succ,List.getD_cons_zero]; omega
      · simp only [hr,decide_false,cond_false]
  by_cases hq : q ≥ 4294967296
  · simp only [hq,decide_true,cond_true]
    exact more (.inl hq)
  · simp only [hq,decide_false,cond_false]
    have b1 : q * y0 ≤ 4294967295 * 4294967295:=Int.le_trans (Int.mul_le_mul_of_nonneg_right (by omega) a3) (Int.mul_le_mul_of_nonneg_left (by omega) (by omega))
    have b0 : 0 ≤ q * y0:=Int.mul_nonneg a7 a3
    rw [wrap_u64_id (z:=q * y0) b0 (by omega),wrap_u64_id (z:=4294967296 * r) (by omega) (by omega),wrap_u64_id (z:=4294967296 * r + u) (by omega) (by omega)]
    by_cases hc : q * y0 > 4294967296 * r + u
    · simp only [hc,decide_true,cond_true]
      exact more (.inr hc)
    · simp only [hc,decide_false,cond_false]
      refine .inr ?_
      rw [he (by omega) (by omega)]
def d64h : Hints:=[(0,lpHint 135 d64a (nums 67 19) dpre dpost),(2,lpHint 135 d64b (nums 102 19) dpre dpost)]
theorem d64blocks : blocksOf (Tryz.f205.body.getD .skip) = [(0,.loop (loopOf (blkOf Tryz.f205 0))),(1,blkOf Tryz.f205 1),(2,.loop (loopOf (blkOf Tryz.f205 2))),(3,blkOf Tryz.f205 3)]:=by kernel_rfl
theorem d64fit : ∀ fn c,Tryz.prog.funcs[205]? = some fn→fn.body = some c→HFit Tryz.prog fn.ntmps d64h c:=by
  intro fn c hf hb
  rw [Tryz.func205] at hf
  cases hf
  have hn : Tryz.f205.ntmps = 135:=by kernel_rfl
  have hc : Tryz.f205.body.getD .skip = c:=by rw [hb]; rfl
  rw [hn]
  have hL:=d64blocks
  rw [hc] at hL
  have hcall : ∀ β,CallOk Tryz.prog (callN Tryz.prog { gam:=[] } 1 β):=callN_ok GamOk.nil 1
  refine HFit.of fun p hp h hh s s' hs=>?_
  rw [hL] at hp
  simp only [List.mem_cons,List.not_mem_nil,or_false] at hp
  rcases hp with rfl | rfl | rfl | rfl
  · have : h = lpHint 135 d64a (nums 67 19) dpre dpost:=(Option.some.inj hh).symm
    subst this
    exact lp_ok hcall (F:=50) (wy:={}) (fun xs=>(xs.getD 3 0).toNat) (dtree_ok rfl (F:=fun xs x heap lo hi step=>run Tryz.prog (callN Tryz.prog { gam:=[] } 1) 135 {} [] 50 (Ex × St) (loopOf (blkOf Tryz.f205 0)) (lpSt 135 d64a (nums 67 19) xs x heap lo hi step) (fun e s'=>some (e,maskSt (nums 67 19) s'))) round0) s s' hs
  · simp [findH,d64h] at hh
  · have : h = lpHint 135 d64b (nums 102 19) dpre dpost:=(Option.some.inj hh).symm
    subst this
    exact lp_ok hcall (F:=50) (wy:={}) (fun xs=>(xs.getD 3 0).toNat) (dtree_ok rfl (F:=fun xs x heap lo hi step=>run Tryz.prog (callN Tryz.prog { gam:=[] } 1) 135 {} [] 50 (Ex × St) (loopOf (blkOf Tryz.f205 2)) (lpSt 135 d64b (nums 102 19) xs x heap lo hi step) (fun e s'=>some (e,maskSt (nums 102 19) s'))) round2) s s' hs
  · simp [findH,d64h] at hh
end Go.Ab
namespace Go.Ab
open Go Go.Proofs
def shI (a s : Int) : Int:=IntKind.u64.wrap (a * 2 ^ min s.toNat IntKind.u64.bits)
def srI (a s : Int) : Int:=a.fdiv (2 ^ min s.toNat IntKind.u64.bits)
def orI (a b : Int) : Int:=IntKind.u64.wrap (((BitVec.ofInt IntKind.u64.bits a ||| BitVec.ofInt IntKind.u64.bits b).toNat : Nat) : Int)
def andI (a b : Int) : Int:=IntKind.u64.wrap (((BitVec.ofInt IntKind.u64.bits a &&& BitVec.ofInt IntKind.u64.bits b).toNat : Nat) : Int)
def guess (U y1 : Int) : Int:=IntKind.u64.wrap (U.tdiv y1)
def rest (U y1 : Int) : Int:=IntKind.u64.wrap (U - IntKind.u64.wrap (guess U y1 * y1))
def low (U u q y : Int) : Int:=IntKind.u64.wrap (IntKind.u64.wrap (IntKind.u64.wrap (U * 4294967296) + u) - IntKind.u64.wrap (q * y))
def d64tail (p : List Int→Bool) (Q : Int→Int→Int→Int→Int→Int) (s y' y1 y0 un32 un1 un0 : Int) : Option (AV × List Con) :=
  bif y1 == 0 then none else
  bif p [y1,y0,un1,guess un32 y1,rest un32 y1] then
    bif y1 == 0 then none else
    bif p [y1,y0,un0,guess (low un32 un1 (Q y1 y0 un1 (guess un32 y1) (rest un32 y1)) y') y1,rest (low un32 un1 (Q y1 y0 un1 (guess un32 y1) (rest un32 y1)) y') y1] then
      bif decide (s < 0) then none else
        some (.val (.tuple #[.int .u64 (IntKind.u64.wrap (IntKind.u64.wrap (Q y1 y0 un1 (guess un32 y1) (rest un32 y1) * 4294967296) +
            Q y1 y0 un0 (guess (low un32 un1 (Q y1 y0 un1 (guess un32 y1) (rest un32 y1)) y') y1) (rest (low un32 un1 (Q y1 y0 un1 (guess un32 y1) (rest un32 y1)) y') y1))),
          .int .u64 (srI (low (low un32 un1 (Q y1 y0 un1 (guess un32 y1) (rest un32 y1)) y') un0
            (Q y1 y0 un0 (guess (low un32 un1 (Q y1 y0 un1 (guess un32 y1) (rest un32 y1)) y') y1) (rest (low un32 un1 (Q y1 y0 un1 (guess un32 y1) (rest un32 y1)) y') y1)) y') s)]),[])
    else none
  else none
theorem d64tree (pz : Int→Bool) (lz : Int→Int) (p : List Int→Bool) (Q R : Int→Int→Int→Int→Int→Int) (h l y : Int) :
    fnSum Tryz.prog { gam:=[(239,S0c (fun (a : U6 × Unit)=>pz a.1.n) fun a=>lz a.1.n)] } [(0,lpHint 135 d64a (nums 67 19) p (dpostV Q R)),(2,lpHint 135 d64b (nums 102 19) p (dpostV Q R))] 20 205 [.val (.int .u64 h),.val (.int .u64 l),.val (.int .u64 y)] [] =
      bif y == 0 then none else bif decide (y ≤ h) then none else
        bif h == 0 then bif y == 0 then none else bif y == 0 then none else some (.val (.tuple #[.int .u64 (IntKind.u64.wrap (l.tdiv y)),.int .u64 (l.tmod y)]),[])
        else bif pz y then bif decide (IntKind.u64.wrap (lz y) < 0) then none else bif decide (IntKind.u64.wrap (lz y) < 0) then none else bif decide (IntKind.u64.wrap (64 - IntKind.u64.wrap (lz y)) < 0) then none else bif decide (IntKind.u64.wrap (lz y) < 0) then none else
          d64tail p Q (IntKind.u64.wrap (lz y)) (shI y (IntKind.u64.wrap (lz y))) (srI (shI y (IntKind.u64.wrap (lz y))) 32) (andI (shI y (IntKind.u64.wrap (lz y))) 4294967295)
            (orI (shI h (IntKind.u64.wrap (lz y))) (srI l (IntKind.u64.wrap (64 - IntKind.u64.wrap (lz y))))) (srI (shI l (IntKind.u64.wrap (lz y))) 32) (andI (shI l (IntKind.u64.wrap (lz y))) 4294967295) else none:=by kernel_rfl
end Go.Ab
