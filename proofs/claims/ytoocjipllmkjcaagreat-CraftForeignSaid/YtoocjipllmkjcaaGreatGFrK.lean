/- A part of the proofs: lemmas, no statement of their own; no condition. -/
import Derived.Test.YtoocjipllmkjcaaGreatGMoC
import Derived.Test.YtoocjipllmkjcaaGreatGAbM
import Derived.Test.YtoocjipllmkjcaaGreatGFuB
import Derived.Test.YtoocjipllmkjcaaGreatGAbU
import Derived.Test.YtoocjipllmkjcaaGreatGFjK
import Derived.Laws.Strings
import Derived.Laws.Concat
import Derived.Lib.Bytealg
import Derived.Laws.Externs
import Derived.Test.YtoocjipllmkjcaaGreatGAbJ
namespace Go.Ab
open Go Go.Proofs
def bsL (l : List UInt8) : ByteArray:=⟨l.toArray⟩
def bodyL (k : Nat) (d : List UInt8) : List UInt8:=UInt8.ofNat k :: UInt8.ofNat d.length :: d
def wrapL (k : Nat) (d : List UInt8) : List UInt8:=165 :: (bodyL k d ++ [UInt8.ofNat (crcF (bodyL k d) 65535 / 256),UInt8.ofNat (crcF (bodyL k d) 65535 % 256)])
def wrapV (x : Fr) : Two ByteArray Bool:=bif decide (x.kind < 0) || (decide (x.kind > 255) || decide ((x.data.size : Int) > 64)) then ⟨⟨#[]⟩,false⟩ else ⟨bsL (wrapL x.kind.toNat x.data.data.toList),true⟩
theorem foldl_pushI : ∀ (l : List UInt8) (r : ByteArray),(l.map (fun b=>(b.toNat : Int))).foldl pushI r = ⟨r.data ++ l.toArray⟩
  | [],r=>by simp
  | b :: l,r=>by
    rw [List.map_cons,List.foldl_cons,foldl_pushI l]
    have e : pushI r (b.toNat : Int) = r.push b:=by unfold pushI; rw [Int.toNat_natCast,UInt8.ofNat_toNat]
    rw [e]
    simp [ByteArray.push]
theorem push_bsL (l : List UInt8) : (l.map (fun b=>(b.toNat : Int))).foldl pushI ByteArray.empty = bsL l:=by
  rw [foldl_pushI]
  show ByteArray.mk (#[] ++ l.toArray) = _
  rw [Array.empty_append]
  rfl
structure Live (W : World) (F : Nat→Prop) (wb : World) : Prop where
  old : ∀ k,k < W.heap.size→F k
  chain : ∀ w'',Keep F wb w''→Keep (fun k=>k < W.heap.size) W w''
theorem Live.start (W : World) : Live W (fun k=>k < W.heap.size) W:=⟨fun _ h=>h,fun _ h=>h⟩
theorem Live.step {W wb w w' : World} {F : Nat→Prop} {N : Nat} {s : St} {a : Act} (h : Live W F wb) (hh : Stand F wb N s a w) (h1 : w'.os = w.os) (h2 : w'.tape = w.tape) (h3 : w'.output = w.output) (hg : w.heap.size ≤ w'.heap.size)
    (hs : ∀ j,j < W.heap.size→w'.heap[j]? = w.heap[j]?) : Live W (Wide F w w') w':=by
  refine ⟨fun k hk=>.inl (h.old k hk),fun w'' k=>?_⟩
  have k0:=h.chain w hh.keep
  exact ⟨k.os.trans (h1.trans k0.os),k.tape.trans (h2.trans k0.tape),k.output.trans (h3.trans k0.output),Nat.le_trans k0.grown (Nat.le_trans hg k.grown),
    fun x hx=>⟨hx,(k.frame x (.inl (h.old x hx))).2.trans ((hs x hx).trans (k0.frame x hx).2)⟩⟩
theorem Live.grown {W wb w w' : World} {F : Nat→Prop} {N : Nat} {s : St} {a : Act} (h : Live W F wb) (hh : Stand F wb N s a w) {row : Option Nat} (hg : w.grownBy w' row) (hr : ∀ r,row = some r→W.heap.size ≤ r) : Live W (Wide F w w') w' :=
  h.step hh hg.os hg.tape hg.output hg.size fun j hj=>hg.block j (by have:=(h.chain w hh.keep).grown; omega) fun e=>by have:=hr j e.symm; omega
theorem Live.size {W wb w : World} {F : Nat→Prop} {N : Nat} {s : St} {a : Act} (h : Live W F wb) (hh : Stand F wb N s a w) : W.heap.size ≤ w.heap.size:=(h.chain w hh.keep).grown
theorem alloc_grown (w : World) (o : Obj) : w.grownBy (w.alloc o) none:=⟨rfl,rfl,rfl,by show w.heap.size ≤ (w.heap.push o).size; rw [Array.size_push]; omega,fun k hk _=>alloc_old w o k hk⟩
theorem owns_keep {w w' : World} {base : Nat} {e : TypeId} {sz : Nat} {v : Value} {n : Nat} {xs : List Value} (h : w.ownsRow base e sz v n xs) (hk : ∀ r,v.ownBlock = some r→w'.heap[r]? = w.heap[r]?) : w'.ownsRow base e sz v n xs:=by
  refine ⟨h.1,?_⟩
  rcases h.2 with h2 | ⟨g,cap,cur,rfl,h3,h4,h5⟩
  · exact .inl h2
  · exact .inr ⟨g,cap,cur,rfl,h3,by rw [hk g rfl]; exact h4,h5⟩
theorem own_form {w : World} {base : Nat} {v : Value} {n : Nat} {xs : List Value} (h : w.ownsRow base 5 1 v n xs) (hn : 0 < n) : ∃ g c cur,v = .slice (some ⟨g,0,none⟩) n c ∧ n ≤ c ∧ w.heap[g]? = some (.cells cur 5 (0,0)) ∧ cur.toList.take n = xs:=by
  rcases h.2 with ⟨_,h0⟩ | ⟨g,c,cur,e1,e2,e3,e4,_,_,e5⟩
  · omega
  · exact ⟨g,c,cur,e1,e4,e3,by simpa using e5⟩
theorem cells3 (x y : Int) : sliceCells Tryz.prog 227 3 [(0,.int .u8 (Int.ofNat 165)),(1,.int .u8 x),(2,.int .u8 y)] = some (5,[.int .u8 (Int.ofNat 165),.int .u8 x,.int .u8 y]):=by kernel_rfl
theorem cells2 (x y : Int) : sliceCells Tryz.prog 227 2 [(0,.int .u8 x),(1,.int .u8 y)] = some (5,[.int .u8 x,.int .u8 y]):=by kernel_rfl
theorem i5b : (Tryz.prog.info? 5).map (fun i=>(i.size,i.bytes)) = some (1,1):=by kernel_rfl
theorem i5z : ((Tryz.prog.info? 5).bind (·.zero)) = some (.int .u8 0):=by kernel_rfl
theorem info5 : ∃ ti,Tryz.prog.info? 5 = some ti ∧ ti.size = 1 ∧ ti.bytes = 1 ∧ ti.zero = some (.int .u8 0):=by
  cases hi : Tryz.prog.info? 5 with
  | none=>have:=i5b; rw [hi] at this; cases this
  | some ti =>
    have h1:=i5b
    have h2:=i5z
    rw [hi] at h1 h2
    simp only [Option.map_some,Option.some.injEq,Prod.mk.injEq,Option.bind_some] at h1 h2
    exact ⟨ti,rfl,h1.1,h1.2,h2⟩
theorem ofNat8 {x : Nat} (h : x < 256) : ((UInt8.ofNat x).toNat : Int) = x:=by
  rw [UInt8.toNat_ofNat']
  omega
theorem run_cut1 {P : Program} {w : World} {t e : TypeId} {ti : TypeInfo} {g n cap : Nat} (ht : P.underlying t = some (.slice e)) (hi : P.info? e = some ti) (hs : ti.size = 1) (hn : 1 ≤ n) (h1 : 1 < cap) :
    (Instr.sliceAt t (.slice (some ⟨g,0,none⟩) n cap) (some (.int .i64 1)) none none).run P w = .ok (.slice (some ⟨g,1,none⟩) (n - 1) (cap - 1)) w:=by
  have hb : (0 : Int) ≤ 1 ∧ (1 : Int) ≤ (n : Int):=by omega
  have hne : ¬ cap = 1:=by omega
  have e : (⟨g,0,none⟩ : Addr).add (1 * 1) = ⟨g,1,none⟩:=rfl
  simp only [Instr.sliceAt,Instr.slice,Instr.sliceBounds,Instr.sliceBound,asIntOf,Sem.run_bind,Sem.run_pure,run_underlying ht,Result.andThen_ok,if_pos hb,run_sizeOf hi,hs,pure_bind,Option.isSome_none,Int.toNat_one,if_neg hne,Option.map_some,e]
theorem f12_is : Tryz.prog.funcs[178]? = some Tryz.f178:=by kernel_rfl
theorem f9_on : (Tryz.f231.body.isSome && !Tryz.f231.name == "runtime.NumGoroutine") = true := by kernel_rfl
theorem size_bsL (l : List UInt8) : (bsL l).size = l.length:=by show l.toArray.size = _; simp
theorem wrap_bad {w : World} {x : Fr} (hb : wrapV x = ⟨⟨#[]⟩,false⟩) {F : Nat→Prop} {wb : World} (hL : Live w F wb) {a1 : Act} {w1 : World} (h : Stand F wb 44 (wS x.kind x.data [(2,.string ⟨#[]⟩),(3,.bool false)]) a1 w1) :
    bodyPost Tryz.prog Tryz.f178 (fun e w'=>∃ v,e = .returned v ∧ RowKit.Below w.heap.size w w' ∧ v = Cod.enc (wrapV x)) .ret a1 w1:=by
  obtain ⟨y1,y2,y3⟩:=h.resultsV (P:=Tryz.prog) (fn:=Tryz.f178) (wqR' ..) (wpk ..)
  exact bodyPost_ret y1 y2 ⟨_,rfl,(hL.chain _ y3).below,by rw [hb]; rfl⟩
theorem wrap_good {w : World} {k : Nat} {s : ByteArray} (hk : k ≤ 255) (hs : s.size ≤ 64) {F : Nat→Prop} {wb : World} (hL : Live w F wb) {a1 : Act} {w1 : World} (h1 : Stand F wb 44 (wS k s []) a1 w1) :
    (Code.seq (.region 3 wO3 false) (.seq (.region 4 wO4 false) (.seq (.region 5 wO5 false) .ret))).wp Tryz.prog (bodyPost Tryz.prog Tryz.f178 (fun e w'=>∃ v,e = .returned v ∧ RowKit.Below w.heap.size w w' ∧ v = .tuple #[.string (bsL (wrapL k s.data.toList)),.bool true])) a1 w1:=by
  have hdl : s.data.toList.length = s.size:=rfl
  obtain ⟨ti,hti,ts,tb,tz⟩:=info5
  refine wp_seq (wp_region ?_)
  rw [t3_n]
  refine ops_stand (frCall _) (qf:=isSum ([] : Gam)) [4096] _ (wq3 k s) (fun _ _ hj=>take_at hj) (ow2 ..) h1 _ fun a2 w2 h2=>?_
  rw [wrap8,wrap8,Nat.mod_eq_of_lt (by omega),Nat.mod_eq_of_lt (by omega)] at h2
  refine build_stand t3_7 (by omega) (lw2 ..) h2 (vals:=[(0,.int .u8 (Int.ofNat 165)),(1,.int .u8 k),(2,.int .u8 s.size)]) ?_ (cells3 _ _) _ fun a3 h3=>?_
  · have e1 : a2.eval (.tmp 22) = .int .u8 k:=h2.eval (t:=22) rfl
    have e2 : a2.eval (.tmp 26) = .int .u8 s.size:=h2.eval (t:=26) rfl
    have e0 : a2.eval (.const (.int .u8 (Int.ofNat 165))) = .int .u8 (Int.ofNat 165):=rfl
    simp only [List.map_cons,List.map_nil,e1,e2,e0]
  have L3:=hL.grown h2 (alloc_grown w2 (.cells (List.toArray [.int .u8 (Int.ofNat 165),.int .u8 (k : Int),.int .u8 (s.size : Int)]) 5)) fun _ h=>by cases h
  have own3:=owns_alloc w2 5 [.int .u8 (Int.ofNat 165),.int .u8 (k : Int),.int .u8 (s.size : Int)] 3 rfl (by decide)
  generalize hw3 : w2.alloc (.cells (List.toArray [.int .u8 (Int.ofNat 165),.int .u8 (k : Int),.int .u8 (s.size : Int)]) 5) = w3 at h3 L3 own3
  have hsz3 : w3.heap.size = w2.heap.size + 1:=by rw [← hw3]; exact Array.size_push ..
  refine ops_stand (frCall _) (qf:=isSum ([] : Gam)) [4096] _ (wq3b k k s.size s (.slice (some ⟨w2.heap.size,0,none⟩) 3 3)) (fun _ _ hj=>mid_at hj) (ow3 ..) h3 _ fun a4 w4 h4=>?_
  have F2 : Wide F w2 w3 w2.heap.size:=.inr ⟨Nat.le_refl _,by omega⟩
  have own4:=owns_keep (w':=w4) own3 fun r hr=>by cases hr; exact (h4.keep.frame _ F2).2
  have hb4 : w2.heap.size ≤ w4.heap.size:=Nat.le_trans (by omega) h4.keep.grown
  obtain ⟨zv5,w5,hr5,own5,g5,n5⟩:=append_fresh_string (P:=Tryz.prog) w4 227 9 0 5 ti v38 v9 hti tz ts tb w2.heap.size _ 3 _ own4 (by omega) s (by simp only [maxLen]; omega) (by omega) hb4
  refine append_stand t3_10 (by omega) (lw3 ..) h4 (v:=.slice (some ⟨w2.heap.size,0,none⟩) 3 3) (u:=.string s) (h4.eval (t:=27) rfl) (h4.eval (t:=29) rfl) hr5 g5 (fun r hr=>by cases hr; exact F2) _ fun a5 h5=>?_
  have L5:=L3.grown h4 g5 fun r hr=>by cases hr; exact hL.size h2
  obtain ⟨g,c,cur,rfl,hcap,hc5,htk⟩:=own_form own5 (by omega)
  have Fg : Wide (Wide F w2 w3) w4 w5 g:=by
    rcases n5 g rfl with h | h
    · cases h; exact .inl F2
    · exact .inr ⟨h,by rw [Array.getElem?_eq_some_iff] at hc5; exact hc5.1⟩
  refine ops_stand (frCall _) (qf:=isSum ([] : Gam)) [4096] _ (wq3c k s (.slice (some ⟨w2.heap.size,0,none⟩) 3 3) (some ⟨g,0,none⟩) (3 + s.size) c) (fun _ _ hj=>drop_at hj) (ow4 ..) h5 [] fun a6 w6 h6=>?_
  have hc6 : w6.heap[g]? = some (.cells cur 5 (0,0)):=((h6.keep.frame _ Fg).2).trans hc5
  generalize hF5 : Wide (Wide F w2 w3) w4 w5 = F5 at *
  refine wp_seq (wp_region ?_)
  rw [t4_n]
  refine move_stand t4_0 (by omega) (lw4 ..) h6 (v:=.slice (some ⟨g,0,none⟩) (3 + s.size) c) (h6.eval (t:=4) rfl) _ fun a7 h7=>?_
  refine op_here t4_1 (by omega) (by rw [List.length_set]; exact lw4 ..) h7 (v:=.slice (some ⟨g,1,none⟩) (2 + s.size) (c - 1)) (fun o ho=>?_) _ fun a8 h8=>?_
  · have hx : a7.eval (.tmp 31) = .slice (some ⟨g,0,none⟩) (3 + s.size) c:=h7.eval (t:=31) rfl
    have h1 : a7.eval (.const (.int .i64 (Int.ofNat 1))) = .int .i64 1:=rfl
    have hrun:=run_cut1 (P:=Tryz.prog) (w:=w6) (g:=g) (n:=3 + s.size) (cap:=c) v38 hti ts (by omega) (by omega)
    rw [show 3 + s.size - 1 = 2 + s.size by omega] at hrun
    simp only [execOp,ho,hx,h1,Option.map_some,Option.map_none,Sem.run_bind,hrun,Result.andThen_ok,Sem.run_pure]
  have hbody : (cur.toList.drop 1).take (2 + s.size) = ((bodyL k s.data.toList).map (fun b=>(b.toNat : Int))).map (Value.int .u8):=by
    rw [List.take_drop,show 1 + (2 + s.size) = 3 + s.size by omega,htk]
    unfold bodyL Lib.strCells
    simp only [List.cons_append,List.nil_append,List.drop_succ_cons,List.drop_zero,List.map_cons,ofNat8 (x:=k) (by omega),ofNat8 (x:=s.size) (by omega),List.map_map,hdl]
    rfl
  have hstr : (convert 227 9 (.slice (some ⟨g,1,none⟩) (2 + s.size) (c - 1))).run Tryz.prog w6 = .ok (.string (bsL (bodyL k s.data.toList))) w6:=by
    rw [bytes_string (g:=g) (off:=1) v38 zv5 v9 hc6 hbody (by simp [bodyL,hdl]; omega),push_bsL]
  refine op_here t4_2 (by omega) (by rw [List.length_set,List.length_set]; exact lw4 ..) h8 (v:=.string (bsL (bodyL k s.data.toList))) (fun o ho=>?_) _ fun a9 h9=>?_
  · have hx : a8.eval (.tmp 32) = .slice (some ⟨g,1,none⟩) (2 + s.size) (c - 1):=h8.eval (t:=32) rfl
    simp only [execOp,ho,hx,Sem.run_bind,hstr,Result.andThen_ok,Sem.run_pure]
  have hbl : (bodyL k s.data.toList).length = 2 + s.size:=by simp [bodyL,hdl]; omega
  have hxs : a9.eval (.tmp 33) = .string (bsL (bodyL k s.data.toList)):=h9.eval (t:=33) rfl
  refine call_world t4_3 (by omega) (by rw [List.length_set,List.length_set,List.length_set]; exact lw4 ..) h9 rfl f9_is f9_on (args:=#[.string (bsL (bodyL k s.data.toList))]) (by simp [cSum,hxs]) (sum_calls (bsL (bodyL k s.data.toList)) (by rw [size_bsL,hbl]; omega) w6) _ fun vc a10 w10 hvc hb10 h10=>?_
  subst hvc
  have L10:=L5.step h9 hb10.os hb10.tape hb10.output hb10.size fun j hj=>hb10.block j (by have:=L5.size h9; omega)
  generalize hcr : crcF (bsL (bodyL k s.data.toList)).data.toList 65535 = cr at *
  have hcr' : crcF (bodyL k s.data.toList) 65535 = cr:=by rw [← hcr]; simp [bsL]
  have hcl : cr < 65536:=by rw [← hcr']; exact crcF_lt _ _ (by omega)
  refine ops_stand (frCall _) (qf:=isSum ([] : Gam)) [4096] _ (wq4 k s (.slice (some ⟨g,0,none⟩) (3 + s.size) c) (.slice (some ⟨g,0,none⟩) (3 + s.size) c) (.slice (some ⟨g,1,none⟩) (2 + s.size) (c - 1)) (.string (bsL (bodyL k s.data.toList))) cr) (fun _ _ hj=>drop_at hj) (ow5 ..) h10 [] fun a11 w11 h11=>?_
  have s6 : w2.heap.size ≤ w6.heap.size:=Nat.le_trans hb4 (Nat.le_trans g5.size h6.keep.grown)
  have g6 : g < w6.heap.size:=by rw [Array.getElem?_eq_some_iff] at hc6; exact hc6.1
  have hc10 : w10.heap[g]? = some (.cells cur 5 (0,0)):=(hb10.block g g6).trans hc6
  have F10 : Wide F5 w6 w10 g:=.inl Fg
  refine wp_seq (wp_region ?_)
  rw [t5_n]
  refine ops_stand (frCall _) (qf:=isSum ([] : Gam)) [4096] _ (wq5 k cr s (some ⟨g,0,none⟩) (3 + s.size) c) (fun _ _ hj=>take_at hj) (ow6 ..) h11 _ fun a12 w12 h12=>?_
  have e38 : IntKind.u8.wrap ((cr : Int).fdiv (2 ^ 8)) = ((cr / 256 : Nat) : Int):=by rw [shr8,wrap8,Nat.mod_eq_of_lt (by omega)]
  rw [e38,wrap8] at h12
  have hc12 : w12.heap[g]? = some (.cells cur 5 (0,0)):=((h12.keep.frame _ F10).2).trans hc10
  refine build_stand t5_6 (by omega) (lw6 ..) h12 (vals:=[(0,.int .u8 (cr / 256 : Nat)),(1,.int .u8 (cr % 256 : Nat))]) ?_ (cells2 _ _) _ fun a13 h13=>?_
  · have e1 : a12.eval (.tmp 38) = .int .u8 (cr / 256 : Nat):=h12.eval (t:=38) rfl
    have e2 : a12.eval (.tmp 40) = .int .u8 (cr % 256 : Nat):=h12.eval (t:=40) rfl
    simp only [List.map_cons,List.map_nil,e1,e2]
  have L13:=L10.grown h12 (alloc_grown w12 (.cells (List.toArray [.int .u8 ((cr / 256 : Nat) : Int),.int .u8 ((cr % 256 : Nat) : Int)]) 5)) fun _ h=>by cases h
  have new13 : (w12.alloc (.cells (List.toArray [.int .u8 ((cr / 256 : Nat) : Int),.int .u8 ((cr % 256 : Nat) : Int)]) 5)).heap[w12.heap.size]? = some (.cells (List.toArray [.int .u8 ((cr / 256 : Nat) : Int),.int .u8 ((cr % 256 : Nat) : Int)]) 5 (0,0)):=by
    show (w12.heap.push _)[w12.heap.size]? = _
    simp
  have g12 : g < w12.heap.size:=by rw [Array.getElem?_eq_some_iff] at hc12; exact hc12.1
  have hc13 : (w12.alloc (.cells (List.toArray [.int .u8 ((cr / 256 : Nat) : Int),.int .u8 ((cr % 256 : Nat) : Int)]) 5)).heap[g]? = some (.cells cur 5 (0,0)):=(alloc_old w12 _ g g12).trans hc12
  have hsz13 : (w12.alloc (.cells (List.toArray [.int .u8 ((cr / 256 : Nat) : Int),.int .u8 ((cr % 256 : Nat) : Int)]) 5)).heap.size = w12.heap.size + 1:=Array.size_push ..
  generalize hw13 : w12.alloc (.cells (List.toArray [.int .u8 ((cr / 256 : Nat) : Int),.int .u8 ((cr % 256 : Nat) : Int)]) 5) = w13 at h13 L13 new13 hc13 hsz13
  have own13:=owns_keep (w':=w13) own5 fun r hr=>by cases hr; exact hc13.trans hc5.symm
  have s13 : w2.heap.size ≤ w13.heap.size:=by have:=hb10.size; have:=h12.keep.grown; omega
  obtain ⟨v14,w14,hr14,own14,g14,n14⟩:=append_fresh (P:=Tryz.prog) w13 227 0 5 ti (.int .u8 0) 1 1 v38 hti tz ts tb rfl (by omega) w2.heap.size _ (3 + s.size) _ own13 ⟨w12.heap.size,0,none⟩ 2 2 [.int .u8 ((cr / 256 : Nat) : Int),.int .u8 ((cr % 256 : Nat) : Int)] rfl
    (fun j u hj=>by
      rw [addr_add,Nat.zero_add]
      simp only [World.cell?,new13]
      simpa using hj) (fun u hu=>by simp only [List.mem_cons,List.not_mem_nil,or_false] at hu; rcases hu with rfl | rfl <;> rfl) (by simp only [maxLen]; omega) (by omega) s13
  have F13 : Wide (Wide F5 w6 w10) w12 w13 g:=.inl F10
  refine append_stand t5_7 (by omega) (by rw [List.length_set]; exact lw6 ..) h13 (v:=.slice (some ⟨g,0,none⟩) (3 + s.size) c) (u:=.slice (some ⟨w12.heap.size,0,none⟩) 2 2) (h13.eval (t:=35) rfl) (h13.eval (t:=41) rfl) hr14 g14 (fun r hr=>by cases hr; exact F13) _ fun a14 h14=>?_
  have L14:=L13.grown h13 g14 fun r hr=>by
    cases hr
    rcases n5 g rfl with h | h
    · cases h; exact hL.size h2
    · exact Nat.le_trans (hL.size h2) (Nat.le_trans hb4 h)
  obtain ⟨g2,c2,cur2,rfl,hcap2,hc14,htk2⟩:=own_form own14 (by omega)
  have hbytes : (cur2.toList.drop 0).take (3 + s.size + 2) = ((wrapL k s.data.toList).map (fun b=>(b.toNat : Int))).map (Value.int .u8):=by
    rw [List.drop_zero,htk2]
    unfold wrapL
    rw [hcr']
    unfold bodyL Lib.strCells
    simp only [List.cons_append,List.nil_append,List.map_cons,List.map_append,List.map_nil,ofNat8 (x:=k) (by omega),hdl,ofNat8 (x:=s.size) (by omega),ofNat8 (x:=cr / 256) (by omega),ofNat8 (x:=cr % 256) (by omega),List.map_map]
    rfl
  have hstr2 : (convert 227 9 (.slice (some ⟨g2,0,none⟩) (3 + s.size + 2) c2)).run Tryz.prog w14 = .ok (.string (bsL (wrapL k s.data.toList))) w14:=by
    rw [bytes_string (g:=g2) (off:=0) v38 zv5 v9 hc14 hbytes (by simp [wrapL,hbl]; omega),push_bsL]
  refine op_here t5_8 (by omega) (by rw [List.length_set,List.length_set]; exact lw6 ..) h14 (v:=.string (bsL (wrapL k s.data.toList))) (fun o ho=>?_) _ fun a15 h15=>?_
  · have hx : a14.eval (.tmp 42) = .slice (some ⟨g2,0,none⟩) (3 + s.size + 2) c2:=h14.eval (t:=42) rfl
    simp only [execOp,ho,hx,Sem.run_bind,hstr2,Result.andThen_ok,Sem.run_pure]
  refine ops_stand (frCall _) (qf:=isSum ([] : Gam)) [] _ (wq5b k (cr / 256 : Nat) (cr % 256 : Nat) s (bsL (wrapL k s.data.toList)) (.slice (some ⟨g,0,none⟩) (3 + s.size) c) (.slice (some ⟨w12.heap.size,0,none⟩) 2 2) (.slice (some ⟨g2,0,none⟩) (3 + s.size + 2) c2)) (fun _ _ hj=>drop_at hj) (ow7 ..) h15 [] fun a16 w16 h16=>?_
  obtain ⟨y1,y2,y3⟩:=h16.resultsV (P:=Tryz.prog) (fn:=Tryz.f178) (wqR ..) (wpk ..)
  exact wp_ret (bodyPost_ret y1 y2 ⟨_,rfl,(L14.chain _ y3).below,rfl⟩)
theorem wrap_calls (x : Fr) (w : World) : Calls Tryz.prog 178 #[Cod.enc x] w fun e w'=>∃ v,e = .returned v ∧ RowKit.Below w.heap.size w w' ∧ v = Cod.enc (wrapV x):=by
  refine calls_of_wp f12_is zwC_is ?_
  have hst:=Stand.start (N:=44) [Cod.enc x] w 4096 frH frT (by simp)
  have L0:=Live.start w
  refine wp_seq ((runs_drop frCall _ _ (zwq0 x.kind x.data)).stand (ow0 ..) hst fun a1 w1 h1=>?_)
  have hrun:=zwq1 x.kind x.data
  by_cases c1 : x.kind < 0
  · rw [decide_eq_true c1,cond_true] at hrun
    exact wp_seq ((runs_drop frCall _ _ hrun).stand (ow1 ..) h1 fun a2 w2 h2=>wrap_bad (by unfold wrapV; rw [decide_eq_true c1]; rfl) L0 h2)
  by_cases c2 : x.kind > 255
  · rw [decide_eq_false c1,cond_false,decide_eq_true c2] at hrun
    exact wp_seq ((runs_drop frCall _ _ hrun).stand (ow1 ..) h1 fun a2 w2 h2=>wrap_bad (by unfold wrapV; rw [decide_eq_false c1,decide_eq_true c2]; rfl) L0 h2)
  by_cases c3 : (x.data.size : Int) > 64
  · rw [decide_eq_false c1,cond_false,decide_eq_false c2,decide_eq_true c3] at hrun
    exact wp_seq ((runs_drop frCall _ _ hrun).stand (ow1 ..) h1 fun a2 w2 h2=>wrap_bad (by unfold wrapV; rw [decide_eq_false c1,decide_eq_false c2,decide_eq_true c3]; rfl) L0 h2)
  rw [decide_eq_false c1,cond_false,decide_eq_false c2,decide_eq_false c3] at hrun
  refine wp_seq ((runs_drop frCall _ _ hrun).stand (ow0 ..) h1 fun a2 w2 h2=>?_)
  obtain ⟨k,hk⟩ : ∃ k : Nat,x.kind = k:=⟨x.kind.toNat,by omega⟩
  have hv : wrapV x = ⟨bsL (wrapL k x.data.data.toList),true⟩:=by
    unfold wrapV
    rw [decide_eq_false c1,decide_eq_false c2,decide_eq_false c3,hk]
    rfl
  rw [hv]
  have h3 : Stand (fun k=>k < w.heap.size) w 44 (wS k x.data []) a2 w2:=by rw [← hk]; exact h2
  exact wrap_good (by omega) (by omega) L0 h3
end Go.Ab
namespace Go.Ab
open Go Go.Proofs
theorem okWrap : SumOk Tryz.prog 178 (S0w (fun _=>true) fun (p : Fr × Unit)=>wrapV p.1):=S0w_of fun a w _=>wrap_calls a.1 w
def noF : Option (AV × List Con):=some (.val (.tuple #[.agg #[.int .i64 0,.string ⟨#[]⟩],.bool false]),[])
def orW (a b : Int) : Int:=IntKind.u16.wrap ↑(BitVec.ofInt IntKind.u16.bits a ||| BitVec.ofInt IntKind.u16.bits b).toNat
def byteI (s : ByteArray) (n : Int) : Int:=(s.data.toList.getD n.toNat 0).toNat
theorem open14 (pre : ByteArray × Unit→Bool) (g : ByteArray × Unit→N16) (s : ByteArray) : fnSum Tryz.prog { gam:=[(231,S0w pre g)] } [] 20 208 [.val (.string s)] [] =
    let L : Int:=s.size
    let m:=IntKind.i64.wrap (L - 2)
    bif decide (L < 5) then noF else bif decide (0 ≤ (0 : Int) ∧ 0 < L) then bif bif false then true else byteI s 0 != 165 then noF else
      bif decide (0 ≤ (2 : Int) ∧ 2 < L) then bif bif false then true else IntKind.i64.wrap (byteI s 2) != IntKind.i64.wrap (L - 5) then noF else
        bif bif false then true else decide (IntKind.i64.wrap (L - 5) > 64) then noF else
          bif decide (0 ≤ (1 : Int) ∧ 1 ≤ m ∧ m ≤ L) then bif pre (s.extract (Int.toNat 1) m.toNat,()) then bif decide (0 ≤ m ∧ m < L) then
            bif decide (0 ≤ IntKind.i64.wrap (m + 1) ∧ IntKind.i64.wrap (m + 1) < L) then
              bif ((g (s.extract (Int.toNat 1) m.toNat,())).n : Int) != orW (IntKind.u16.wrap (IntKind.u16.wrap (byteI s m) * 2 ^ min (Int.toNat 8) IntKind.u16.bits)) (IntKind.u16.wrap (byteI s (IntKind.i64.wrap (m + 1)))) then noF else
                bif decide (0 ≤ (1 : Int) ∧ 1 < L) then bif decide (0 ≤ (3 : Int) ∧ 3 ≤ m ∧ m ≤ L) then
                  some (.val (.tuple #[.agg #[.int .i64 (IntKind.i64.wrap (byteI s 1)),.string (s.extract (Int.toNat 3) m.toNat)],.bool true]),[]) else none else none
            else none else none else none else none
      else none else none:=by kernel_rfl
end Go.Ab
namespace Go.Ab
open Go Go.Proofs
def Dr.zero : Dr:=⟨false,0,V3.zero,V3.zero⟩
def rate1 (o : Ops) (t b l r : Int) (f : Bool) : Int × Bool :=
  let s:=o.sub f b l
  let p:=o.part s.2 s.1 1000 t
  let q:=o.sub p.2 p.1 r
  let k:=o.part q.2 q.1 t (IntKind.i64.wrap (t + 2000))
  o.add k.2 r k.1
def rates (o : Ops) (t : Int) (d : Dr) (u : V3) (f : Bool) : V3 × Bool:=each3 f (rate1 o t u.x d.last.x d.rate.x) (rate1 o t u.y d.last.y d.rate.y) (rate1 o t u.z d.last.z d.rate.z)
def last3 (o : Ops) (u : V3) (f : Bool) : V3 × Bool:=each3 f (fun b=>o.add b u.x 0) (fun b=>o.add b u.y 0) (fun b=>o.add b u.z 0)
def doneD (e : TypeId) (d : Dr) (f : Bool) : Option (AV × List Con):=bif f then sayS e Dr.zero f else sayS e d f
where sayS (e : TypeId) (d : Dr) (f : Bool) : Option (AV × List Con):=some (.val (Cod.enc d),row e f)
theorem step58 (o : Ops) (bt : Int × Int × Unit→Two Int Bool) (va : Bool→V3 × V3 × Unit→V3 × Bool) (b : Bool) (d : Dr) (u : V3) (tk : Int) :
    fnSum Tryz.prog { gam:=(167,S0 bt) :: (146,S 57 va) :: gamN o } [] 20 89 [.ptr 0 0,.val (Cod.enc d),.val (Cod.enc u),.val (.int .i64 tk)] (row 57 b) =
      let l:=va b (u,V3.zero,())
      let t:=bt (d.tick,tk,())
      bif t.b then bif d.on then doneD 57 ⟨true,tk,l.1,(rates o t.a d u l.2).1⟩ (rates o t.a d u l.2).2 else doneD 57 ⟨true,tk,l.1,V3.zero⟩ l.2 else doneD 57 ⟨true,tk,l.1,V3.zero⟩ l.2:=by kernel_rfl
theorem betw133 (s t : Int) : fnSum Tryz.prog { gam:=[] } [] 20 167 [.val (.int .i64 s),.val (.int .i64 t)] [] =
    bif decide (t < s) then some (.val (Cod.enc (Two.mk (0 : Int) false)),[]) else
      let d:=IntKind.u64.wrap (IntKind.u64.wrap t - IntKind.u64.wrap s)
      bif decide (d ≥ 10) then some (.val (Cod.enc (Two.mk (IntKind.i64.wrap d) (decide (d ≤ 10000)))),[]) else some (.val (Cod.enc (Two.mk (IntKind.i64.wrap d) false)),[]):=by kernel_rfl
end Go.Ab
namespace Go.Ab
open Go
def i64? (x : Int) : Bool:=decide (-9223372036854775808 ≤ x ∧ x < 9223372036854775808)
end Go.Ab
namespace Go.Ab
open Go Go.Proofs
def gapT (tk dt : Int) : Int:=if 10 ≤ tk - dt ∧ tk - dt ≤ 10000 then tk - dt else 0
def btV (p : Int × Int × Unit) : Two Int Bool :=
  bif decide (p.2.1 < p.1) then ⟨0,false⟩ else ⟨IntKind.i64.wrap (IntKind.u64.wrap (IntKind.u64.wrap p.2.1 - IntKind.u64.wrap p.1)),
    bif decide (IntKind.u64.wrap (IntKind.u64.wrap p.2.1 - IntKind.u64.wrap p.1) ≥ 10) then decide (IntKind.u64.wrap (IntKind.u64.wrap p.2.1 - IntKind.u64.wrap p.1) ≤ 10000) else false⟩
theorem ok133 : SumOk Tryz.prog 167 (S0 btV):=S0_ok (E:={ gam:=[] }) GamOk.nil 20 fun a=>by
  refine (betw133 a.1 a.2.1).trans ?_
  unfold btV
  dsimp only
  generalize IntKind.u64.wrap (IntKind.u64.wrap a.2.1 - IntKind.u64.wrap a.1) = D
  cases decide (a.2.1 < a.1) <;> cases decide (D ≥ 10) <;> rfl
theorem btV_eq {s t : Int} (hs : i64? s = true) (ht : i64? t = true) : ((btV (s,t,())).b = true→(btV (s,t,())).a = gapT t s ∧ gapT t s ≠ 0) ∧ ((btV (s,t,())).b = false→gapT t s = 0):=by
  simp only [i64?,decide_eq_true_eq] at hs ht
  unfold btV gapT
  dsimp only
  by_cases h : t < s
  · simp only [h,decide_true,cond_true]
    refine ⟨fun h=>absurd h (by simp),fun _=>?_⟩
    rw [if_neg (by omega)]
  · have e : IntKind.u64.wrap (IntKind.u64.wrap t - IntKind.u64.wrap s) = t - s:=by simp only [wrap_u64]; omega
    rw [e]
    simp only [h,decide_false,cond_false]
    by_cases h1 : t - s ≥ 10
    · by_cases h2 : t - s ≤ 10000
      · simp only [h1,h2,decide_true,cond_true]
        refine ⟨fun _=>?_,fun h=>absurd h (by simp)⟩
        rw [wrap_i64_id (z:=t - s) (by omega) (by omega),if_pos ⟨trivial,trivial⟩]
        exact ⟨rfl,by omega⟩
      · simp only [h1,h2,decide_true,decide_false,cond_true]
        refine ⟨fun h=>absurd h (by simp),fun _=>?_⟩
        rw [if_neg fun h=>h.2]
    · simp only [h1,decide_false,cond_false]
      refine ⟨fun h=>absurd h (by simp),fun _=>?_⟩
      rw [if_neg fun h=>h.1]
abbrev StA:=Dr × V3 × Int × Unit
def stepPre (p : StA) : Bool:=i64? p.1.tick && i64? p.2.2.1
def stepV (b : Bool) (p : StA) : Dr × Bool :=
  let f:=(last3 opsF p.2.1 b).2
  let r:=rates opsF (gapT p.2.2.1 p.1.tick) p.1 p.2.1 f
  bif !p.1.on || gapT p.2.2.1 p.1.tick == 0 then (bif f then (Dr.zero,f) else (⟨true,p.2.2.1,p.2.1,V3.zero⟩,f)) else (bif r.2 then (Dr.zero,r.2) else (⟨true,p.2.2.1,p.2.1,r.1⟩,r.2))
theorem doneD_eq (e : TypeId) (d : Dr) (f : Bool) : doneD e d f = some (.val (Cod.enc (bif f then (Dr.zero,f) else (d,f)).1),row e (bif f then (Dr.zero,f) else (d,f)).2):=by cases f <;> rfl
theorem fadd_right {x v : Int} (h : fadd false x 0 = (v,false)) : v = x:=by
  unfold fadd at h
  rw [Int.add_zero] at h
  generalize (!false && (num x && (num 0 && num x))) = t at h
  cases t with
  | true=>simp only [cond_true,Prod.mk.injEq] at h; exact h.1.symm
  | false=>simp at h
theorem last_eq {u : V3} {b : Bool} (h : (last3 opsF u b).2 = false) : (last3 opsF u b).1 = u:=by
  unfold last3 each3 at h ⊢
  simp only [opsF] at h ⊢
  have hs : ∀ x y,fadd true x y = (0,true):=fun _ _=>rfl
  cases b
  · rcases h1 : fadd false u.x 0 with ⟨x,f1⟩
    rw [h1] at h
    cases f1
    · rcases h2 : fadd false u.y 0 with ⟨y,f2⟩
      simp only [h2] at h
      cases f2
      · rcases h3 : fadd false u.z 0 with ⟨z,f3⟩
        simp only [h3] at h
        subst h
        simp only [fadd_right h1,fadd_right h2,fadd_right h3]
      · simp [hs] at h
    · simp [hs] at h
  · simp [hs] at h
theorem rates_bad (t : Int) (d : Dr) (u : V3) : (rates opsF t d u true).2 = true:=rfl
theorem vadd_last (u : V3) (b : Bool) : vop fadd b (u,V3.zero,()) = done3 (last3 opsF u b):=rfl
theorem ok58 : SumOk Tryz.prog 89 (Sc 57 stepPre stepV):=by
  refine Sc_ok (E:={ gam:=(167,S0 btV) :: (146,S 57 (vop fadd)) :: gamN opsF }) (.cons ok133 (.cons ok50 gamN_ok)) 20 fun b p hp=>?_
  obtain ⟨d,u,tk,_⟩:=p
  refine (step58 opsF btV (vop fadd) b d u tk).trans ?_
  simp only [stepPre,Bool.and_eq_true] at hp
  obtain ⟨h1,h2⟩:=btV_eq hp.1 hp.2
  dsimp only
  rw [vadd_last]
  simp only [doneD_eq,done3]
  unfold stepV
  dsimp only
  cases hf : (last3 opsF u b).2 with
  | true =>
    simp only [rates_bad,cond_true]
    cases (btV (d.tick,tk,())).b <;> cases d.on <;> cases (gapT tk d.tick == 0) <;> rfl
  | false =>
    simp only [cond_false,last_eq hf]
    cases hb : (btV (d.tick,tk,())).b with
    | false =>
      have:=h2 hb
      rw [this]
      cases d.on <;> rfl
    | true =>
      obtain ⟨e1,e2⟩:=h1 hb
      rw [e1,show (gapT tk d.tick == 0) = false by simp; exact e2]
      cases d.on <;> rfl
end Go.Ab
namespace Go.Ab
open Go Go.Proofs
theorem blk1_X (s : Stp) (c : Crf) (r : Rds) : blk1 s c r = some (unit0,stpX (s,c,r)):=rfl
def startP (p : V4 × Unit) : Gs:=start p.1
def spreadP (b : Bool) (p : Gs × Unit) : Int × Bool:=spread opsF b p.1
def moveP : Bool→Gs × V3 × Int × Unit→Gs × Bool:=moveO FP
def meetP : Bool→Gs × P2 × P2 × Unit→GCB × Bool:=meetO GP
theorem okStartP : SumOk Tryz.prog 48 (S0 startP):=ok105
theorem okSpreadP : SumOk Tryz.prog 50 (S 57 spreadP):=ok109
def planO (nx : Pl × Sn × Unit→Pl) (at_ : Bool→P2 × P2 × Unit→V4 × Bool) (st : V4 × Unit→Gs) (x : CX) : CX :=
  bif (nx (x.2.1.plan,x.1.seen,())).mode == 2 then bif x.2.1.plan.mode != 2 then bif (at_ false (x.1.sky,x.1.body,())).2 then (x.1,{ x.2.1 with plan:=⟨1,0,0,0,0,orJ (nx (x.2.1.plan,x.1.seen,())).faults 4⟩,guess:=Gs.zero },x.2.2)
      else bif (nx (x.2.1.plan,x.1.seen,())).mode != 2 then (x.1,{ x.2.1 with plan:=nx (x.2.1.plan,x.1.seen,()),guess:=Gs.zero },x.2.2) else (x.1,{ x.2.1 with plan:=nx (x.2.1.plan,x.1.seen,()),guess:=st ((at_ false (x.1.sky,x.1.body,())).1,()) },x.2.2)
      else bif (nx (x.2.1.plan,x.1.seen,())).mode != 2 then (x.1,{ x.2.1 with plan:=nx (x.2.1.plan,x.1.seen,()),guess:=Gs.zero },x.2.2) else (x.1,{ x.2.1 with plan:=nx (x.2.1.plan,x.1.seen,()) },x.2.2)
    else bif (nx (x.2.1.plan,x.1.seen,())).mode != 2 then (x.1,{ x.2.1 with plan:=nx (x.2.1.plan,x.1.seen,()),guess:=Gs.zero },x.2.2) else (x.1,{ x.2.1 with plan:=nx (x.2.1.plan,x.1.seen,()) },x.2.2)
def planX : CX→CX:=planO (fun p=>nextV p.1 p.2.1) attitude startP
theorem okPlan : SumOk Tryz.prog 92 (ySM planX):=SM_ok (E:={ gam:=[(173,S0 fun (p : Pl × Sn × Unit)=>nextV p.1 p.2.1),(174,S 57 attitude),(48,S0 startP)] }) (.cons ok9 (.cons ok98 (.cons okStartP .nil))) 20 fun x _ _=>by
  refine (plan92 (fun p=>nextV p.1 p.2.1) attitude startP x.1 x.2.1 x.2.2).trans ?_
  simp only [blk1_X,blk_cond]
  rfl
def filtEX (sp : Bool→Gs × Unit→Int × Bool) (x : CX) (g : Gs) (pass fl : Bool) : CX :=
  bif decide ((sp fl (g,())).1 > 274877906944) then ({ x.1 with seen:={ x.1.seen with pass:=pass,bad:=true } },{ x.2.1 with guess:=g },x.2.2)
  else ({ x.1 with seen:={ x.1.seen with pass:=pass,bad:=(sp fl (g,())).2 } },{ x.2.1 with guess:=g },x.2.2)
theorem filtE_X (sp : Bool→Gs × Unit→Int × Bool) (s : Stp) (c : Crf) (r : Rds) (g : Gs) (pass fl : Bool) : filtE sp s c r g pass fl = some (unit0,stpX (filtEX sp (s,c,r) g pass fl)):=by
  unfold filtE
  simp only [blk1_X,blk_cond]
  rfl
def filtMX (me : Bool→Gs × P2 × P2 × Unit→GCB × Bool) (sp : Bool→Gs × Unit→Int × Bool) (x : CX) (m : Gs × Bool) : CX :=
  bif x.1.seen.pair then bif x.1.seen.lit then filtEX sp x (me m.2 (m.1,x.1.sky,x.1.body,())).1.g (me m.2 (m.1,x.1.sky,x.1.body,())).1.ok (me m.2 (m.1,x.1.sky,x.1.body,())).2
    else filtEX sp x m.1 x.1.seen.pass m.2
  else filtEX sp x m.1 x.1.seen.pass m.2
theorem filtM_X (me : Bool→Gs × P2 × P2 × Unit→GCB × Bool) (sp : Bool→Gs × Unit→Int × Bool) (s : Stp) (c : Crf) (r : Rds) (m : Gs × Bool) : filtM me sp s c r m = some (unit0,stpX (filtMX me sp (s,c,r) m)):=by
  unfold filtM
  simp only [filtE_X,blk_cond]
  rfl
def filtX (mv : Bool→Gs × V3 × Int × Unit→Gs × Bool) (me : Bool→Gs × P2 × P2 × Unit→GCB × Bool) (sp : Bool→Gs × Unit→Int × Bool) (x : CX) : CX :=
  bif x.1.seen.gyro then bif x.2.2.p1 then filtMX me sp x (mv false (x.2.1.guess,x.2.2.r1.v,x.1.gap,())) else filtMX me sp x (mv false (x.2.1.guess,V3.zero,x.1.gap,()))
    else filtMX me sp x (mv false (x.2.1.guess,x.2.1.guess.bias,x.1.gap,()))
def filterX : CX→CX:=filtX moveP meetP spreadP
theorem okFilter : SumOk Tryz.prog 91 (ySM filterX):=SM_ok (E:={ gam:=[(49,S 57 moveP),(21,S 57 meetP),(50,S 57 spreadP)] }) (.cons okMoveF (.cons okMeetF (.cons okSpreadP .nil))) 20 fun x _ _=>by
  refine (filter91 moveP meetP spreadP x.1 x.2.1 x.2.2).trans ?_
  simp only [filtM_X,blk_cond]
  rfl
def lkBX (x : CX) (a b : V3) (p : Bool) : CX:=({ x.1 with body:=⟨a,b⟩,seen:={ x.1.seen with pair:=p } },x.2.1,x.2.2)
theorem lkB_X (s : Stp) (c : Crf) (r : Rds) (a b : V3) (p : Bool) : lkB s c r a b p = some (unit0,stpX (lkBX (s,c,r) a b p)):=rfl
def lkPX (F : LkOps) (x : CX) (fl : Bool) : CX :=
  bif x.2.2.p2 then bif x.2.2.p3 then bif (F.ap fl (x.1.sky.a,x.1.sky.b,())).1 then lkBX x x.2.2.r2.v x.2.2.r3.v (F.ap (F.ap fl (x.1.sky.a,x.1.sky.b,())).2 (x.2.2.r2.v,x.2.2.r3.v,())).1 else lkBX x x.2.2.r2.v x.2.2.r3.v false
    else lkBX x x.2.2.r2.v V3.zero false
  else bif x.2.2.p3 then lkBX x V3.zero x.2.2.r3.v false else lkBX x V3.zero V3.zero false
theorem lkP_X (F : LkOps) (s : Stp) (c : Crf) (r : Rds) (fl : Bool) : lkP F s c r fl = some (unit0,stpX (lkPX F (s,c,r) fl)):=by
  unfold lkP
  simp only [lkB_X,blk_cond]
  rfl
def lkSX (F : LkOps) (x : CX) (pl su sk : V3 × Bool) : CX :=
  bif sk.2 then ({ x.1 with sky:=⟨su.1,sk.1⟩ },x.2.1,x.2.2) else lkPX F ({ x.1 with sky:=⟨su.1,sk.1⟩,seen:={ x.1.seen with lit:=!(F.sh false (pl.1,su.1,())).1 } },x.2.1,x.2.2) sk.2
theorem lkS_X (F : LkOps) (s : Stp) (c : Crf) (r : Rds) (pl su sk : V3 × Bool) : lkS F s c r pl su sk = some (unit0,stpX (lkSX F (s,c,r) pl su sk)):=by
  unfold lkS
  simp only [lkP_X,blk1_X,blk_cond]
  rfl
def lkGX (F : LkOps) (x : CX) : CX :=
  bif !x.2.1.placed then x else
    lkSX F x (F.pl false (x.2.1.orb,x.1.tk,())) (F.su (F.pl false (x.2.1.orb,x.1.tk,())).2 (x.1.tk,())) (F.sk (F.su (F.pl false (x.2.1.orb,x.1.tk,())).2 (x.1.tk,())).2 ((F.pl false (x.2.1.orb,x.1.tk,())).1,x.1.tk,()))
theorem lkG_X (F : LkOps) (s : Stp) (c : Crf) (r : Rds) : lkG F s c r = some (unit0,stpX (lkGX F (s,c,r))):=by
  unfold lkG
  simp only [lkS_X,blk1_X,blk_cond]
  rfl
def lookO (F : LkOps) (x : CX) : CX :=
  bif x.2.2.p1 then lkGX F ({ x.1 with seen:={ x.1.seen with gyro:=true,slow:=decide ((F.vn false (x.2.2.r1.v,())).1 ≤ 54975581388) } },x.2.1,x.2.2) else lkGX F ({ x.1 with seen:={ x.1.seen with gyro:=false } },x.2.1,x.2.2)
def LK : LkOps:={ vn:=vnorm opsF,pl:=placeV,su:=sunV,sk:=skyV,sh:=shadeV,ap:=apart (vparts vopsF) }
def lookX : CX→CX:=lookO LK
theorem gamLK : GamOk Tryz.prog (gamLk LK):=.cons ok66 (.cons okPlace (.cons okSun (.cons okSky (.cons okShade (.cons ok96 .nil)))))
theorem okLook : SumOk Tryz.prog 90 (ySM lookX):=SM_ok (E:={ gam:=gamLk LK }) gamLK 20 fun x _ _=>by
  refine (look90 LK x.1 x.2.1 x.2.2).trans ?_
  simp only [lkG_X,blk_cond]
  rfl
end Go.Ab
namespace Go.Ab
open Go Go.Proofs
theorem bsL_data (s : ByteArray) : bsL s.data.toList = s:=by unfold bsL; rw [Array.toArray_toList]
theorem data_bsL (l : List UInt8) : (bsL l).data.toList = l:=by unfold bsL; simp
theorem extract_bsL (l : List UInt8) (i j : Nat) : (bsL l).extract i j = bsL ((l.drop i).take (j - i)):=by
  have h : ((bsL l).extract i j).data.toList = (l.drop i).take (j - i):=by
    rw [ByteArray.data_extract]
    unfold bsL
    simp
  rw [← h,bsL_data]
def openV (s : ByteArray) : Two Fr Bool :=
  let l:=s.data.toList
  let d:=(l.drop 3).take (l.length - 5)
  let k:=(l.getD 1 0).toNat
  if 5 ≤ l.length ∧ d.length ≤ 64 ∧ l = wrapL k d then ⟨⟨k,bsL d⟩,true⟩ else ⟨⟨0,⟨#[]⟩⟩,false⟩
theorem shape5 {l : List UInt8} (h : 5 ≤ l.length) : ∃ a k n d p q,l = a :: k :: n :: (d ++ [p,q]):=by
  match l,h with
  | a :: k :: n :: r,h =>
    have hr : 2 ≤ r.length:=by simp at h; omega
    refine ⟨a,k,n,r.take (r.length - 2),r.getD (r.length - 2) 0,r.getD (r.length - 1) 0,?_⟩
    congr 3
    have e : r = r.take (r.length - 2) ++ r.drop (r.length - 2):=(List.take_append_drop ..).symm
    have e2 : r.drop (r.length - 2) = [r.getD (r.length - 2) 0,r.getD (r.length - 1) 0]:=by
      rw [List.drop_eq_getElem_cons (by omega),List.drop_eq_getElem_cons (by omega),List.drop_eq_nil_of_le (by omega)]
      rw [List.getD_eq_getElem?_getD,List.getD_eq_getElem?_getD,List.getElem?_eq_getElem (by omega),List.getElem?_eq_getElem (by omega)]
      have : r.length - 2 + 1 = r.length - 1:=by omega
      simp only [this,Option.getD_some]
    rw [← e2]
    exact e
theorem u8_eq {a : UInt8} {n : Nat} (hn : n < 256) : a = UInt8.ofNat n ↔ a.toNat = n:=by
  constructor
  · intro h
    have:=ofNat8 hn
    rw [h]
    omega
  · intro h
    apply UInt8.toNat_inj.1
    have:=ofNat8 hn
    omega
section
variable {s : ByteArray} {a k n p q : UInt8} {d : List UInt8} (hl : s.data.toList = a :: k :: n :: (d ++ [p,q]))
include hl
theorem openV_of : openV s = if d.length ≤ 64 ∧ a = 165 ∧ n = UInt8.ofNat d.length ∧ p = UInt8.ofNat (crcF (k :: n :: d) 65535 / 256) ∧ q = UInt8.ofNat (crcF (k :: n :: d) 65535 % 256) then ⟨⟨k.toNat,bsL d⟩,true⟩ else ⟨⟨0,⟨#[]⟩⟩,false⟩:=by
  unfold openV
  dsimp only
  rw [hl]
  have e1 : ((a :: k :: n :: (d ++ [p,q])).drop 3).take ((a :: k :: n :: (d ++ [p,q])).length - 5) = d:=by
    have : (a :: k :: n :: (d ++ [p,q])).length - 5 = d.length:=by simp
    rw [this]
    simp
  have e2 : (a :: k :: n :: (d ++ [p,q])).getD 1 0 = k:=rfl
  rw [e1,e2]
  have hk : UInt8.ofNat k.toNat = k:=UInt8.ofNat_toNat
  have key : (5 ≤ (a :: k :: n :: (d ++ [p,q])).length ∧ d.length ≤ 64 ∧ a :: k :: n :: (d ++ [p,q]) = wrapL k.toNat d) ↔
      (d.length ≤ 64 ∧ a = 165 ∧ n = UInt8.ofNat d.length ∧ p = UInt8.ofNat (crcF (k :: n :: d) 65535 / 256) ∧ q = UInt8.ofNat (crcF (k :: n :: d) 65535 % 256)):=by
    unfold wrapL bodyL
    rw [hk]
    constructor
    · rintro ⟨_,h2,h3⟩
      simp only [List.cons_append,List.cons.injEq,true_and] at h3
      obtain ⟨h4,h5,h6⟩:=h3
      rw [← h5] at h6
      have:=List.append_cancel_left h6
      simp only [List.cons.injEq,and_true] at this
      exact ⟨h2,h4,h5,this⟩
    · rintro ⟨h2,h4,h5,h6,h7⟩
      refine ⟨by simp,h2,?_⟩
      rw [← h5,← h6,← h7,h4]
      rfl
  by_cases h : d.length ≤ 64 ∧ a = 165 ∧ n = UInt8.ofNat d.length ∧ p = UInt8.ofNat (crcF (k :: n :: d) 65535 / 256) ∧ q = UInt8.ofNat (crcF (k :: n :: d) 65535 % 256)
  · rw [if_pos h,if_pos (key.2 h)]
  · rw [if_neg h,if_neg fun g=>h (key.1 g)]
theorem size_of : s.size = d.length + 5:=by
  have h : s.data.toList.length = s.size:=rfl
  rw [← h,hl]
  simp
theorem byte0 : byteI s 0 = a.toNat:=by unfold byteI; rw [hl]; rfl
theorem byte1 : byteI s 1 = k.toNat:=by unfold byteI; rw [hl]; rfl
theorem byte2 : byteI s 2 = n.toNat:=by unfold byteI; rw [hl]; rfl
theorem byteP {i : Int} (hi : i = d.length + 3) : byteI s i = p.toNat:=by
  have : i.toNat = d.length + 3:=by omega
  unfold byteI
  rw [hl,this]
  simp [List.getD_eq_getElem?_getD]
theorem byteQ {i : Int} (hi : i = d.length + 4) : byteI s i = q.toNat:=by
  have : i.toNat = d.length + 4:=by omega
  unfold byteI
  rw [hl,this]
  simp [List.getD_eq_getElem?_getD]
theorem cut1 {m : Nat} (hm : m = d.length + 3) : s.extract 1 m = bsL (k :: n :: d):=by
  rw [← bsL_data s,extract_bsL,hl]
  have : m - 1 = d.length + 2:=by omega
  rw [this]
  simp
theorem cut3 {m : Nat} (hm : m = d.length + 3) : s.extract 3 m = bsL d:=by
  rw [← bsL_data s,extract_bsL,hl]
  have : m - 3 = d.length:=by omega
  rw [this]
  simp
end
theorem orW_eq {p q : Nat} (hp : p < 256) (hq : q < 256) : orW (IntKind.u16.wrap (IntKind.u16.wrap (p : Int) * 2 ^ min (Int.toNat 8) IntKind.u16.bits)) (IntKind.u16.wrap (q : Int)) = ((p * 256 + q : Nat) : Int):=by
  have e8 : min (Int.toNat 8) IntKind.u16.bits = 8:=rfl
  rw [e8,wrap16,Nat.mod_eq_of_lt (by omega),shl8,wrap16,Nat.mod_eq_of_lt (by omega),Nat.mod_eq_of_lt (by omega)]
  have h : (BitVec.ofInt IntKind.u16.bits ((p * 256 : Nat) : Int) ||| BitVec.ofInt IntKind.u16.bits (q : Int)).toNat = p * 256 + q:=by
    show (BitVec.ofInt 16 ((p * 256 : Nat) : Int) ||| BitVec.ofInt 16 (q : Int)).toNat = _
    rw [BitVec.ofInt_natCast,BitVec.ofInt_natCast,BitVec.toNat_or,BitVec.toNat_ofNat,BitVec.toNat_ofNat,Nat.mod_eq_of_lt (by omega),Nat.mod_eq_of_lt (by omega)]
    have:=Nat.two_pow_add_eq_or_of_lt (i:=8) (b:=q) (by omega) p
    rw [show 2 ^ 8 * p = p * 256 by omega] at this
    rw [this]
  unfold orW
  rw [h,wrap16,Nat.mod_eq_of_lt (by omega)]
theorem small_open {s : ByteArray} (h : s.size < 5) : openV s = ⟨⟨0,⟨#[]⟩⟩,false⟩:=by
  unfold openV
  dsimp only
  have hl : s.data.toList.length = s.size:=rfl
  rw [if_neg fun g=>by omega]
theorem okOpen : SumOk Tryz.prog 208 (S0w szOk fun (p : ByteArray × Unit)=>openV p.1):=by
  have hG : GamOk Tryz.prog [(231,S0w szOk crcN)]:=.cons okSum .nil
  refine S0w_of fun a w hp=>?_
  obtain ⟨s,_⟩:=a
  have hsz : s.size ≤ 4611686018427387904:=of_decide_eq_true hp
  refine Calls.mono (calls_of_sum (E:={ gam:=[(231,S0w szOk crcN)] }) hG (d:=20) (f:=208) (vals:=[.string s]) (v:=Cod.enc (openV s)) ((open14 szOk crcN s).trans ?_) w) fun e w' h=>⟨_,h.1,h.2,rfl⟩
  dsimp only
  by_cases h5 : (s.size : Int) < 5
  · rw [decide_eq_true h5,small_open (by omega)]; rfl
  rw [decide_eq_false h5,cond_false]
  obtain ⟨a,k,n,d,p,q,hl⟩:=shape5 (l:=s.data.toList) (by have hl : s.data.toList.length = s.size:=rfl; omega)
  have hs:=size_of hl
  have ha:=a.toNat_lt
  have hk:=k.toNat_lt
  have hn:=n.toNat_lt
  have hpp:=p.toNat_lt
  have hq:=q.toNat_lt
  have hcl:=crcF_lt (k :: n :: d) 65535 (by omega)
  have w2 : IntKind.i64.wrap ((s.size : Int) - 2) = ((d.length + 3 : Nat) : Int):=by rw [wrapM]; omega
  have w5 : IntKind.i64.wrap ((s.size : Int) - 5) = (d.length : Int):=by rw [wrapM]; omega
  have w3 : IntKind.i64.wrap (((d.length + 3 : Nat) : Int) + 1) = ((d.length + 4 : Nat) : Int):=by rw [wrapM]; omega
  have wn : IntKind.i64.wrap (n.toNat : Int) = (n.toNat : Int):=by rw [wrapM]; omega
  have wk : IntKind.i64.wrap (k.toNat : Int) = (k.toNat : Int):=by rw [wrapM]; omega
  have cut1' : s.extract (Int.toNat 1) (((d.length + 3 : Nat) : Int)).toNat = bsL (k :: n :: d):=cut1 hl (by omega)
  have cut3' : s.extract (Int.toNat 3) (((d.length + 3 : Nat) : Int)).toNat = bsL d:=cut3 hl (by omega)
  have hsum : ((crcN (bsL (k :: n :: d),())).n : Int) = (crcF (k :: n :: d) 65535 : Nat):=by unfold crcN; rw [data_bsL]
  rw [openV_of hl,w2,w3,w5,byte0 hl,byte1 hl,byte2 hl,wn,wk,byteP hl (by omega),byteQ hl (by omega),orW_eq hpp hq,cut1',cut3',hsum]
  have hpre : szOk (bsL (k :: n :: d),()) = true:=decide_eq_true (by show (bsL _).size ≤ _; rw [size_bsL]; simp; omega)
  rw [hpre,decide_eq_true (p:=0 ≤ (0 : Int) ∧ 0 < (s.size : Int)) (by omega),decide_eq_true (p:=0 ≤ (2 : Int) ∧ 2 < (s.size : Int)) (by omega),decide_eq_true (p:=0 ≤ (1 : Int) ∧ 1 ≤ ((d.length + 3 : Nat) : Int) ∧ ((d.length + 3 : Nat) : Int) ≤ (s.size : Int)) (by omega),
    decide_eq_true (p:=0 ≤ ((d.length + 3 : Nat) : Int) ∧ ((d.length + 3 : Nat) : Int) < (s.size : Int)) (by omega),decide_eq_true (p:=0 ≤ ((d.length + 4 : Nat) : Int) ∧ ((d.length + 4 : Nat) : Int) < (s.size : Int)) (by omega),decide_eq_true (p:=0 ≤ (1 : Int) ∧ 1 < (s.size : Int)) (by omega),
    decide_eq_true (p:=0 ≤ (3 : Int) ∧ 3 ≤ ((d.length + 3 : Nat) : Int) ∧ ((d.length + 3 : Nat) : Int) ≤ (s.size : Int)) (by omega)]
  simp only [cond_true,cond_false]
  by_cases c1 : a = 165
  · have b1 : ((a.toNat : Int) != 165) = false:=by rw [c1]; rfl
    rw [b1,cond_false]
    by_cases c2 : (n.toNat : Int) = (d.length : Int)
    · have b2 : ((n.toNat : Int) != (d.length : Int)) = false:=by rw [c2]; simp
      rw [b2,cond_false]
      by_cases c3 : (d.length : Int) > 64
      · rw [decide_eq_true c3,if_neg fun g=>by omega]; rfl
      · rw [decide_eq_false c3,cond_false]
        by_cases c4 : crcF (k :: n :: d) 65535 = p.toNat * 256 + q.toNat
        · have b4 : (((crcF (k :: n :: d) 65535 : Nat) : Int) != ((p.toNat * 256 + q.toNat : Nat) : Int)) = false:=by rw [c4]; simp
          rw [b4,cond_false,if_pos ⟨by omega,c1,(u8_eq (by omega)).2 (by omega),(u8_eq (by omega)).2 (by omega),(u8_eq (by omega)).2 (by omega)⟩]
          rfl
        · have b4 : (((crcF (k :: n :: d) 65535 : Nat) : Int) != ((p.toNat * 256 + q.toNat : Nat) : Int)) = true:=bne_iff_ne.2 (by omega)
          rw [b4,if_neg fun g=>by
            have g1:=(u8_eq (a:=p) (by omega)).1 g.2.2.2.1
            have g2:=(u8_eq (a:=q) (by omega)).1 g.2.2.2.2
            omega]
          rfl
    · have b2 : ((n.toNat : Int) != (d.length : Int)) = true:=bne_iff_ne.2 c2
      rw [b2,if_neg fun g=>by
        have g1:=(u8_eq (a:=n) (by omega)).1 g.2.2.1
        omega]
      rfl
  · have b1 : ((a.toNat : Int) != 165) = true:=bne_iff_ne.2 fun e=>c1 ((u8_eq (n:=165) (by omega)).2 (by omega))
    rw [b1,if_neg fun g=>c1 g.2.1]
    rfl
end Go.Ab
namespace Go.Ab
open Go
section
variable {P : Program} {N : Nat} {w0 : World} {own : Nat→Prop} {σ0 : Nat→Option Nat} {lo0 hi0 : Nat} {s : St} {a : Act} {w : World}
theorem StFits.elsewhere (h : StFits N w0 own σ0 lo0 hi0 s a w) {w' : World} (h1 : w'.os = w.os) (h2 : w'.tape = w.tape) (h3 : w'.output = w.output) (hg : w.heap.size ≤ w'.heap.size) (hs : ∀ j,j < w.heap.size→w'.heap[j]? = w.heap[j]?) :
    ∃ (own1 : Nat→Prop) (σ1 : Nat→Option Nat),(∀ r,own1 r→r < w.heap.size) ∧ (StFits N w' own1 σ1 s.lo s.hi s a w' ∧ ∀ b,s.lo ≤ b→b < s.hi→σ1 b = none) ∧ ∀ s' a' w2,StFits N w' own1 σ1 s.lo s.hi s' a' w2→StFits N w0 own σ0 lo0 hi0 s' a' w2:=by
  obtain ⟨σ,u,hf,hsub,hn,hle,hout,hlo,hhi⟩:=h
  have hw:=hf.sub hsub
  refine ⟨fun r=>∃ b,σ b = some r ∧ ((∃ e cs,s.u (.blk b) = some (.row e cs)) ∨ ∃ o,s.u (.blk b) = some (.obj o)),σ,fun r ⟨b,hb,_⟩=>hw.bound b r hb,?_,?_⟩
  · refine ⟨⟨σ,s.u,?_,Sub.refl _,hn,Le.refl σ,fun b hb _=>hb,Nat.le_refl _,Nat.le_refl _⟩,hn⟩
    refine { hw with row:=fun b e cs hb=>?_,obj:=fun b o hb=>?_,bound:=fun b r hb=>Nat.lt_of_lt_of_le (hw.bound b r hb) hg,ownsR:=fun b e cs r hb hr=>.inl ⟨b,hr,.inl ⟨e,cs,hb⟩⟩,ownsO:=fun b o r hb hr=>.inl ⟨b,hr,.inr ⟨o,hb⟩⟩,os:=rfl,tape:=rfl,output:=rfl,grown:=Nat.le_refl _,frame:=fun _ _ _=>rfl }
    · obtain ⟨r,vs,k1,k2,k3⟩:=hw.row b e cs hb
      exact ⟨r,vs,k1,by rw [hs r (hw.bound b r k1)]; exact k2,k3⟩
    · obtain ⟨r,o',k1,k2,k3⟩:=hw.obj b o hb
      exact ⟨r,o',k1,by rw [hs r (hw.bound b r k1)]; exact k2,k3⟩
  · rintro s' a' w2 ⟨σ2,u2,hf2,hs2,hn2,hl2,ho2,hlo2,hhi2⟩
    have key : ∀ r,((∃ b,σ b = some r ∧ ((∃ e cs,s.u (.blk b) = some (.row e cs)) ∨ ∃ o,s.u (.blk b) = some (.obj o))) ∨ w'.heap.size ≤ r)→own r ∨ w0.heap.size ≤ r:=by
      intro r hr
      rcases hr with ⟨b,hb,⟨e,cs,hc⟩ | ⟨o,hc⟩⟩ | hr
      · exact hw.ownsR b e cs r hc hb
      · exact hw.ownsO b o r hc hb
      · have:=hw.grown
        exact .inr (by omega)
    refine ⟨σ2,u2,{ hf2 with ownsR:=fun b e cs r hb hr=>key r (hf2.ownsR b e cs r hb hr),ownsO:=fun b o r hb hr=>key r (hf2.ownsO b o r hb hr),os:=hf2.os.trans (h1.trans hw.os),tape:=hf2.tape.trans (h2.trans hw.tape),output:=hf2.output.trans (h3.trans hw.output),grown:=Nat.le_trans hw.grown (Nat.le_trans hg hf2.grown),frame:=fun k hk hno=>?_ },hs2,hn2,hle.trans hl2,fun b hb hb'=>ho2 b (hout b hb hb') (by omega),by omega,by omega⟩
    have hkw:=hw.grown
    refine (hf2.frame k (by omega) fun ho=>?_).trans ((hs k (by omega)).trans (hw.frame k hk hno))
    rcases key k (.inl ho) with h | h
    · exact hno h
    · omega
theorem StFits.put (h : StFits N w0 own σ0 lo0 hi0 s a w) {d : Nat} (hd : d < N) (hlen : s.tmps.length = N) (v : Value) : StFits N w0 own σ0 lo0 hi0 { s with tmps:=s.tmps.set d (.val v) } (a.put (some d) v) w:=by
  obtain ⟨σ,u,hf,hs,hn,hle,hout,hlo,hhi⟩:=h
  refine ⟨σ,upd1 u (.tmp d) (.av (.val v)),hf.put hd (by simp only [Rel]),fun l c h=>?_,hn,hle,hout,hlo,hhi⟩
  cases l with
  | blk b=>simpa [upd1] using hs (.blk b) c h
  | tmp t =>
    by_cases e : t = d
    · subst e
      simp only [St.u,stU,List.getElem?_set_self (by omega : t < s.tmps.length),Option.map_some,Option.some.injEq] at h
      subst h
      simp [upd1]
    · simp only [St.u,stU,List.getElem?_set_ne (Ne.symm e)] at h
      have : upd1 u (.tmp d) (.av (.val v)) (.tmp t) = u (.tmp t):=by simp [upd1,e]
      rw [this]
      exact hs _ _ h
theorem StFits.eval (h : StFits N w0 own σ0 lo0 hi0 s a w) {t : Nat} {v : Value} (ht : s.tmps[t]? = some (.val v)) : a.eval (.tmp t) = v:=by
  obtain ⟨σ,u,hf,hs,_⟩:=h
  obtain ⟨x,h1,h2⟩:=hf.tmp t (.val v) (hs _ _ (by simp [St.u,stU,ht]))
  simp only [Rel] at h2
  subst h2
  simp [Act.eval,h1]
theorem StFits.far (h : StFits N w0 own σ0 lo0 hi0 s a w) {k : Nat} (hk : k < w0.heap.size) (ho : ¬ own k) : w.heap[k]? = w0.heap[k]?:=by
  obtain ⟨σ,u,hf,_⟩:=h
  exact hf.frame k hk ho
theorem StFits.lower (h : StFits N w0 own σ0 lo0 hi0 s a w) (hnone : ∀ b,lo0 ≤ b→b < hi0→σ0 b = none) (hok : okClean lo0 s = true) (hhi : s.hi = hi0) : StFits N w0 own σ0 lo0 hi0 { s with lo:=lo0 } a w:=by
  simp only [okClean,Bool.and_eq_true,List.all_eq_true,Nat.blt_eq] at hok
  obtain ⟨hct,hch⟩:=hok
  have hblk : ∀ b c,s.u (.blk b) = some c→cleanB lo0 hi0 b:=fun b c hb=>by
    have hm:=hget_mem (H:=s.heap) hb
    have:=(hch _ hm).1
    unfold cleanB
    omega
  have hcl : ∀ l c,s.u l = some c→CleanC lo0 hi0 c:=fun l c hl=>by
    cases l with
    | tmp t =>
      simp only [St.u,stU,Option.map_eq_some_iff] at hl
      obtain ⟨x,hx,rfl⟩:=hl
      intro b hb
      have:=hct x (List.mem_of_getElem? hx) b hb
      unfold cleanB
      omega
    | blk b =>
      have hm:=hget_mem (H:=s.heap) hl
      have:=(hch _ hm).2
      cases c with
      | av x=>intro d hd; have:=this d hd; unfold cleanB; omega
      | row e cs=>intro d hd; have:=this d hd; unfold cleanB; omega
      | obj o=>trivial
  obtain ⟨σ,u,hf,hs,hn,hl,ho,hlo,hi⟩:=h
  have hw : Fits N w0 own σ s.u a w:=hf.sub hs
  refine ⟨cutσ σ lo0 hi0,s.u,?_,Sub.refl _,fun b hb1 hb2=>?_,fun b r hb=>?_,fun b hb1 hb2=>?_,Nat.le_refl _,hi⟩
  · refine { hw with tmp:=fun t v hv=>?_,row:=fun b e cs hb=>?_,obj:=fun b o hb=>?_,inj:=fun b b' r h1 h2=>hw.inj b b' r (cutσ_some h1) (cutσ_some h2),bound:=fun b r hb=>hw.bound b r (cutσ_some hb),ownsR:=fun b e cs r hb hr=>hw.ownsR b e cs r hb (cutσ_some hr),ownsO:=fun b o r hb hr=>hw.ownsO b o r hb (cutσ_some hr) }
    · obtain ⟨x,h3,h4⟩:=hw.tmp t v hv
      exact ⟨x,h3,Rel.cut v x (hcl _ _ hv) h4⟩
    · obtain ⟨r,vs,h3,h4,h5⟩:=hw.row b e cs hb
      exact ⟨r,vs,by rw [cutσ_clean (hblk b _ hb)]; exact h3,h4,Rels.cut cs vs (hcl _ _ hb) h5⟩
    · obtain ⟨r,o',h3,h4,h5⟩:=hw.obj b o hb
      exact ⟨r,o',by rw [cutσ_clean (hblk b _ hb)]; exact h3,h4,h5⟩
  · have hb2 : b < hi0:=by rw [← hhi]; exact hb2
    unfold cutσ
    rw [if_pos ⟨hb1,hb2⟩]
  · have hc : cleanB lo0 hi0 b:=fun hc=>by rw [hnone b hc.1 hc.2] at hb; cases hb
    rw [cutσ_clean hc]
    exact hl b r hb
  · have:=ho b hb1 hb2
    unfold cutσ
    split
    · rfl
    · exact this
variable {ops : Array Oper} {Q : Exit→Act→World→Prop}
theorem op_fit {k d : Nat} {op : Op} (hs : sigOf ops k = some (op,some d,true)) (hd : d < N) (hlen : s.tmps.length = N) (hh : StFits N w0 own σ0 lo0 hi0 s a w) {v : Value} (hrun : ∀ o : Oper,o.op = op→(execOp a.eval o).run P w = .ok (.value v) w) (rest : List Nat)
    (hK : ∀ a',StFits N w0 own σ0 lo0 hi0 { s with tmps:=s.tmps.set d (.val v) } a' w→wpOps P ops Q rest a' w) : wpOps P ops Q (k :: rest) a w:=by
  obtain ⟨o,ho,hop,hdst,hg⟩:=sigOf_some hs
  rw [wpOps_cons]
  unfold wpOp
  rw [ho]
  simp only
  rw [if_pos (by simp [Region.wanted,hg])]
  refine .inl ?_
  unfold Oper.wp
  rw [hrun o hop,Oper.upon_value,hdst]
  exact hK _ (hh.put hd hlen v)
theorem index_fit {k d : Nat} {t elem : TypeId} {x ix : Operand} {ti : TypeInfo} (hs : sigOf ops k = some (.indexAddr t x ix,some d,true)) (hd : d < N) (hlen : s.tmps.length = N) (hu : P.underlying t = some (.slice elem)) (hi : P.info? elem = some ti)
    (hh : StFits N w0 own σ0 lo0 hi0 s a w) {b : Addr} {len cap i : Nat} {ik : IntKind} (hx : a.eval x = .slice (some b) len cap) (hix : a.eval ix = .int ik i) (hlt : i < len) (rest : List Nat)
    (hK : ∀ a',StFits N w0 own σ0 lo0 hi0 { s with tmps:=s.tmps.set d (.val (.pointer (some (b.add (i * ti.size))))) } a' w→wpOps P ops Q rest a' w) : wpOps P ops Q (k :: rest) a w:=by
  refine op_fit hs hd hlen hh (v:=.pointer (some (b.add (i * ti.size)))) (fun o hop=>?_) rest hK
  have hb : 0 ≤ (i : Int) ∧ (i : Int) < (len : Int):=by omega
  simp only [execOp,hop,Instr.indexAt,hix,asIntOf,Sem.run_bind,run_underlying hu,Result.andThen_ok,hx,Sem.run_pure,Sem.run_ite,if_pos hb,run_sizeOf hi,Int.toNat_natCast]
theorem load_fit {k d : Nat} {t : TypeId} {x : Operand} (hs : sigOf ops k = some (.load t x,some d,true)) (hd : d < N) (hlen : s.tmps.length = N) (hh : StFits N w0 own σ0 lo0 hi0 s a w) {b : Addr} (hx : a.eval x = .pointer (some b)) {v : Value} (hv : (loadVar t b).run P w = .ok v w) (rest : List Nat)
    (hK : ∀ a',StFits N w0 own σ0 lo0 hi0 { s with tmps:=s.tmps.set d (.val v) } a' w→wpOps P ops Q rest a' w) : wpOps P ops Q (k :: rest) a w :=
  op_fit hs hd hlen hh (fun o hop=>by simp only [execOp,hop,Instr.loadAt,hx,Instr.sureAddr,Sem.run_bind,Sem.run_pure,Result.andThen_ok,hv]) rest hK
theorem op_else {k d : Nat} {op : Op} (hs : sigOf ops k = some (op,some d,true)) (hd : d < N) (hlen : s.tmps.length = N) (hh : StFits N w0 own σ0 lo0 hi0 s a w) {v : Value} {w' : World} (hrun : ∀ o : Oper,o.op = op→(execOp a.eval o).run P w = .ok (.value v) w')
    (h1 : w'.os = w.os) (h2 : w'.tape = w.tape) (h3 : w'.output = w.output) (hg : w.heap.size ≤ w'.heap.size) (hsame : ∀ j,j < w.heap.size→w'.heap[j]? = w.heap[j]?) (rest : List Nat)
    (hK : ∀ a' (own1 : Nat→Prop) (σ1 : Nat→Option Nat),(∀ r,own1 r→r < w.heap.size)→(∀ b,s.lo ≤ b→b < s.hi→σ1 b = none)→StFits N w' own1 σ1 s.lo s.hi { s with tmps:=s.tmps.set d (.val v) } a' w'→(∀ s' a' w2,StFits N w' own1 σ1 s.lo s.hi s' a' w2→StFits N w0 own σ0 lo0 hi0 s' a' w2)→wpOps P ops Q rest a' w') : wpOps P ops Q (k :: rest) a w:=by
  obtain ⟨o,ho,hop,hdst,hgd⟩:=sigOf_some hs
  rw [wpOps_cons]
  unfold wpOp
  rw [ho]
  simp only
  rw [if_pos (by simp [Region.wanted,hgd])]
  refine .inl ?_
  unfold Oper.wp
  rw [hrun o hop,Oper.upon_value,hdst]
  obtain ⟨own1,σ1,k1,⟨k2,kn⟩,k3⟩:=hh.elsewhere h1 h2 h3 hg hsame
  exact hK _ own1 σ1 k1 kn (k2.put hd hlen v) k3
theorem call_else {k d f : Nat} {c : Call} {fn : Func} (hs : sigOf ops k = some (.call c, some d, true)) (hd : d < N) (hlen : s.tmps.length = N) (hh : StFits N w0 own σ0 lo0 hi0 s a w) (hcal : c.callee = .value (.func f)) (hfn : P.funcs[f]? = some fn) (hb : (fn.body.isSome && !fn.name == "runtime.NumGoroutine") = true)
    {args : Array Value} (hargs : c.args.map a.eval = args) {X : Value→World→Prop} (hc : Calls P f args w fun e w'=>∃ v,e = .returned v ∧ RowKit.Below w.heap.size w w' ∧ X v w') (rest : List Nat)
    (hK : ∀ v a' w' (own1 : Nat→Prop) (σ1 : Nat→Option Nat),X v w'→RowKit.Below w.heap.size w w'→(∀ r,own1 r→r < w.heap.size)→(∀ b,s.lo ≤ b→b < s.hi→σ1 b = none)→StFits N w' own1 σ1 s.lo s.hi { s with tmps:=s.tmps.set d (.val v) } a' w'→(∀ s' a' w2,StFits N w' own1 σ1 s.lo s.hi s' a' w2→StFits N w0 own σ0 lo0 hi0 s' a' w2)→wpOps P ops Q rest a' w') : wpOps P ops Q (k :: rest) a w:=by
  obtain ⟨o,ho,hop,hdst,hgd⟩:=sigOf_some hs
  rw [wpOps_cons]
  unfold wpOp
  rw [ho]
  simp only
  rw [if_pos (by simp [Region.wanted,hgd])]
  refine .inl ?_
  unfold Oper.wp
  have hexec : (execOp a.eval o).run P w = .ok (.enter f args) w:=by
    have e : a.eval (.func f) = .func (.func f) #[] #[]:=rfl
    simp only [execOp,hop,resolve,hcal,e,Deferred.ofValue,Sem.run_bind,Sem.run_pure,Result.andThen_ok,invoke,run_callFunc hfn hb,hargs,Array.empty_append,Array.append_empty]
  rw [hexec]
  simp only [Oper.upon]
  refine Calls.mono hc fun e w' he=>?_
  obtain ⟨v,rfl,g1,g2⟩:=he
  simp only
  rw [hdst]
  obtain ⟨own1,σ1,k1,⟨k2,kn⟩,k3⟩:=hh.elsewhere g1.os g1.tape g1.output g1.size fun j hj=>g1.block j hj
  exact hK v _ w' own1 σ1 g2 g1 k1 kn (k2.put hd hlen v) k3
theorem ops_fit {call : CallR (Bool × St)} {qf : FuncId→Bool} (hcall : CallOk P call) {l : List Oper} {k : Nat} {s1 : St} (keep G : List Nat) (h : opsRun P call qf N ops l s [] (endOps keep G) = some (true,s1))
    (hl : ∀ j o,l[j]? = some o→ops[k + j]? = some o) (hh : StFits N w0 own σ0 lo0 hi0 s a w) (rest : List Nat) (hK : ∀ a' w',StFits N w0 own σ0 lo0 hi0 s1 a' w'→wpOps P ops Q rest a' w') : wpOps P ops Q ((List.range l.length).map (k + ·) ++ rest) a w:=by
  obtain ⟨items,s',h1,h2,h3,h4,h5,h6,_,_⟩:=opsRun_sound hcall l k s [] h hl
  obtain ⟨σ,u,hf,hs,hn,hle0,hout0,hlo0,hhi0⟩:=hh
  obtain ⟨u',hc,hs'⟩:=h2 u hs
  have hb:=h5.bounds
  simp only [endOps,forceN_eq,Option.some.injEq,Prod.mk.injEq] at h1
  obtain ⟨hrm,rfl⟩:=h1
  have hrm:=Nat.le_of_ble_eq_true hrm
  have hwk:=dropSt_wk keep G s'
  have hix : items.map (·.i) = (List.range l.length).map (k + ·):=by
    apply List.ext_getElem
    · simp [h3]
    · intro j hj1 hj2
      simp only [List.getElem_map,List.getElem_range]
      exact h4 j _ (List.getElem?_eq_getElem (by simpa using hj1))
  rw [← hix]
  have hfresh : Fresh items σ:=by
    intro it hit b hb1 hb2
    have:=hb.2 it hit
    exact hn b (by omega) (by omega)
  refine chain_rest items rest u u' σ a w hc hf hfresh h5.apart fun σ' a' w' hle hout hf'=>?_
  refine hK a' w' ⟨σ',_,(hf'.sub hs').weak hwk,Sub.refl _,fun b hb1 hb2=>?_,hle0.trans hle,fun b hb1 hb2=>hout b (hout0 b hb1 hb2) fun it hit=>?_,?_,?_⟩
  · have hb1 : s'.lo ≤ b:=hb1
    have hb2 : b < s'.hi:=hb2
    refine hout b (hn b (by omega) (by omega)) fun it hit=>?_
    have:=hb.2 it hit
    omega
  · have:=hb.2 it hit
    omega
  · show lo0 ≤ s'.lo
    omega
  · show s'.hi ≤ hi0
    omega
end
end Go.Ab
set_option linter.unusedSimpArgs false
namespace Go.Ab
open Go Go.Proofs
instance : Cod Crf where
  enc c:=.agg (List.toArray (CodL.encl c))
  dec v:=match v with
    | .agg a=>decAll Crf a.toList
    | _=>none
  law v a h:=by
    split at h
    · rename_i x
      rw [← decAll_law h]
    · cases h
structure StOps where
  rt : Int × Unit→Bool
  hp : CX→ByteArray × Unit→Bool
  he : CX→ByteArray × Unit→CX
  bp : StA→Bool
  bd : Bool→StA→Dr × Bool
  lk : CX→CX
  fi : CX→CX
  pl : CX→CX
  dp : Bool→Dr × Unit→V3 × Bool
  ct : V4 × V3 × Unit→Two V4 V3
  wr : Tl × Unit→Two Fr Bool
  wp : Fr × Unit→Two ByteArray Bool
def gamSt (F : StOps) : Gam:=[(87,S0 F.rt),(88,SM F.hp fun x a=>(unitV,F.he x a)),(89,Sc 57 F.bp F.bd),(90,ySM F.lk),(91,ySM F.fi),(92,ySM F.pl),(175,S 57 F.dp),(176,S0 F.ct),(177,S0 F.wr),(178,S0 F.wp)]
def cstE (F : StOps) : Env:={ gam:=gamSt F }
def tellT (s : Stp) (c : Crf) (k : Two V4 V3) : Tl:=⟨s.tk,c.plan.mode,c.plan.faults,c.ack,c.err,c.rej,k.a,k.b⟩
def teB (F : StOps) (x : CX) (m : V3) : ByteArray:=(F.wp ((F.wr (tellT x.1 x.2.1 (F.ct (x.2.1.guess.q,m,())),())).a,())).a
noncomputable def cstR : Nat→Code
  | 0=>Tryz.f25.body.getD .skip
  | k + 1=>seqR (cstR k)
noncomputable def cstL (k : Nat) : Code:=seqL (cstR k)
def crf0 : Crf:=⟨false,0,⟨#[]⟩,⟨0,0,0,0,0,0⟩,false,⟨0,0,0,0,0,0,0⟩,⟨false,0,⟨0,0,0⟩,⟨0,0,0⟩⟩,⟨⟨0,0,0,0⟩,⟨0,0,0⟩,⟨⟨0,0,0,0,0,0⟩,⟨0,0,0,0,0,0⟩,⟨0,0,0,0,0,0⟩,⟨0,0,0,0,0,0⟩,⟨0,0,0,0,0,0⟩,⟨0,0,0,0,0,0⟩⟩⟩,0,0,0⟩
def csA : Nat:=4096
def csB : Nat:=4096 + 1 * 2 ^ 180
def csM : Nat:=4096 + 2 * 2 ^ 180
def csS : Nat:=4096 + 3 * 2 ^ 180
def csE : Nat:=4096 + 4 * 2 ^ 180
def stpAt (a m : Nat) (s : Stp) : List AV:=.ptr a 0 :: .val (.int .i64 s.tk) :: .val (.int .i64 s.gap) :: .map m :: ((CodL.encl s.sky ++ (CodL.encl s.body ++ CodL.encl s.seen)).map AV.val)
def cstI (c : Crf) (tk : Int) (b : ByteArray) : St:=gSt 106 [(1,.val (.int .i64 tk)),(2,.val (.string b)),(3,.ptr csA 0),(6,.ptr csB 0),(7,.val (.string ⟨#[]⟩))] [(csA,.row 44 (crfRow c)),(csB,.row 44 (crfRow crf0))] csM
def cstI1 (c : Crf) (tk : Int) (b : ByteArray) : St:=gSt 106 [(1,.val (.int .i64 tk)),(2,.val (.string b)),(3,.ptr csA 0),(6,.ptr csB 0),(7,.val (.string ⟨#[]⟩))] [(csA,.row 44 (crfRow c)),(csB,.row 44 (crfRow c))] csM
def cstZ (c : Crf) (b : ByteArray) (lo : Nat) : St:=gSt 106 [(6,.ptr csB 0),(7,.val (.string b))] [(csB,.row 44 (crfRow c))] lo
def stp0 (tk : Int) : Stp:=⟨tk,0,⟨⟨0,0,0⟩,⟨0,0,0⟩⟩,⟨⟨0,0,0⟩,⟨0,0,0⟩⟩,⟨false,false,false,false,false,false,false,0⟩⟩
def cstM (c : Crf) (s : Stp) (o : Obj) (tk : Int) (b : ByteArray) : St:=gSt 106 [(1,.val (.int .i64 tk)),(2,.val (.string b)),(3,.ptr csA 0),(6,.ptr csB 0),(7,.val (.string ⟨#[]⟩)),(8,.ptr csS 0)] [(csA,.row 44 (crfRow c)),(csB,.row 44 (crfRow crf0)),(csS,.row 145 (stpAt csA csM s)),(csM,.obj o)] csE
def rdg0 : Rdg:=⟨0,0,⟨0,0,0⟩⟩
def rds0 : Rds:=⟨false,rdg0,false,rdg0,false,rdg0⟩
def cstX (x : CX) (tk : Int) (b : ByteArray) : St:=cstM x.2.1 x.1 (rdsObj x.2.2) tk b
def cstY (x : CX) (tk : Int) : St:=gSt 106 [(1,.val (.int .i64 tk)),(3,.ptr csA 0),(6,.ptr csB 0),(7,.val (.string ⟨#[]⟩)),(8,.ptr csS 0)] [(csA,.row 44 (crfRow x.2.1)),(csB,.row 44 (crfRow crf0)),(csS,.row 145 (stpAt csA csM x.1)),(csM,.obj (rdsObj x.2.2))] csE
def gapD (tk ct : Int) : Int:=IntKind.u64.wrap (IntKind.u64.wrap tk - IntKind.u64.wrap ct)
section
variable (F : StOps) (c : Crf) (tk : Int) (b : ByteArray) (x : CX) (o : Obj)
theorem cst_q0 : gRun Tryz.prog (cstE F) 106 (cstL 0) (startS 106 [.val (Cod.enc c),.val (.int .i64 tk),.val (.string b)] []) [csA,csB] [1,2,3,6,7] = some (.normal,cstI c tk b):=by kernel_rfl
theorem cst_q1 : gRun Tryz.prog (cstE F) 106 (cstL 1) (cstI c tk b) [csA,csB] [1,2,3,6,7] = bif !F.rt (tk,()) then some (.ret,cstI1 c tk b) else bif c.on then bif decide (tk ≤ c.tk) then some (.ret,cstI1 c tk b) else some (.normal,cstI c tk b) else some (.normal,cstI c tk b):=by kernel_rfl
theorem cst_q2 : gRun Tryz.prog (cstE F) 106 (cstL 2) (cstI c tk b) [csA,csB,csS,csM] [1,2,3,6,7,8] = some (.normal,cstM c (stp0 tk) (.map #[] 0) tk b):=by kernel_rfl
theorem cst_q3 : gRun Tryz.prog (cstE F) 106 (cstL 3) (cstX x tk b) [csA,csB,csS,csM] [1,2,3,6,7,8] = bif x.2.1.on then bif decide (gapD tk x.2.1.tk ≥ 10) then bif decide (gapD tk x.2.1.tk ≤ 10000) then some (.normal,cstX ({ x.1 with gap:=IntKind.i64.wrap (gapD tk x.2.1.tk) },x.2.1,x.2.2) tk b) else some (.normal,cstX x tk b) else some (.normal,cstX x tk b) else some (.normal,cstX x tk b):=by kernel_rfl
theorem cst_q4 : gRun Tryz.prog (cstE F) 106 (cstL 4) (cstX x tk b) [csA,csB,csS,csM] [1,2,3,6,7,8] = some (.normal,cstX ({ x.1 with seen:={ x.1.seen with gap:=x.1.gap == 0 } },x.2.1,x.2.2) tk b):=by kernel_rfl
theorem cst_q5 : gRun Tryz.prog (cstE F) 106 (cstL 5) (cstX x tk b) [csA,csB,csS,csM] [1,3,6,7,8] = bif F.hp x (b,()) then some (.normal,cstY (F.he x (b,())) tk) else none:=by kernel_rfl
theorem cst_q6 : gCut Tryz.prog (cstE F) 106 (cstL 6) (cstY x tk) csE [csA,csB,csS,csM] [1,3,6,7,8] = bif x.2.2.p3 then bif F.bp (x.2.1.drift,x.2.2.r3.v,x.2.2.r3.tk,()) then some (.normal,cstY (x.1,{ x.2.1 with drift:=(F.bd false (x.2.1.drift,x.2.2.r3.v,x.2.2.r3.tk,())).1 },x.2.2) tk) else none else some (.normal,cstY x tk):=by kernel_rfl
theorem cst_q7 : gRun Tryz.prog (cstE F) 106 (cstL 7) (cstY x tk) [csA,csB,csS,csM] [1,3,6,7,8] = some (.normal,cstY (F.lk x) tk):=by kernel_rfl
theorem cst_q8 : gRun Tryz.prog (cstE F) 106 (cstL 8) (cstY x tk) [csA,csB,csS,csM] [1,3,6,7,8] = bif x.2.1.plan.mode == 2 then bif !x.1.seen.gap then some (.normal,cstY (F.fi x) tk) else some (.normal,cstY x tk) else some (.normal,cstY x tk):=by kernel_rfl
theorem cst_q9 : gRun Tryz.prog (cstE F) 106 (cstL 9) (cstY x tk) [csA,csB,csS,csM] [1,3,6,7,8] = some (.normal,cstY (F.pl x) tk):=by kernel_rfl
theorem cst_q10 : gRun Tryz.prog (cstE F) 106 (cstL 10) (cstY x tk) [csA,csB,csS,csM] [1,3,6,7,8] = some (.normal,cstY (x.1,{ x.2.1 with on:=true,tk:=tk },x.2.2) tk):=by kernel_rfl
theorem cst_q11 : gCut Tryz.prog (cstE F) 106 (cstR 11) (cstY x tk) csE [csB] [6,7] = bif x.2.1.plan.mode == 0 then some (.ret,cstZ x.2.1 (teB F x (F.dp false (x.2.1.drift,())).1) csE) else some (.ret,cstZ x.2.1 (teB F x V3.zero) csE):=by kernel_rfl
theorem cst_k : okClean csE (cstY x tk) = true:=by kernel_rfl
end
end Go.Ab
namespace Go.Ab
open Go Go.Proofs
theorem f25_is : Tryz.prog.funcs[25]? = some Tryz.f25:=by kernel_rfl
theorem cst_is : Tryz.f25.body = some (.seq (cstL 0) (.seq (cstL 1) (.seq (cstL 2) (.seq (cstL 3) (.seq (cstL 4) (.seq (cstL 5) (.seq (cstL 6) (.seq (cstL 7) (.seq (cstL 8) (.seq (cstL 9) (.seq (cstL 10) (cstR 11))))))))))) ):=by kernel_rfl
theorem cst_N : Tryz.f25.ntmps = 106:=by kernel_rfl
theorem cst_resZ (c : Crf) (b : ByteArray) : resA Tryz.prog (cstZ c b csE) Tryz.f25.results.toList = some [.val (Cod.enc c),.val (.string b)]:=by kernel_rfl
theorem cst_resI (c : Crf) (tk : Int) (b : ByteArray) : resA Tryz.prog (cstI1 c tk b) Tryz.f25.results.toList = some [.val (Cod.enc c),.val (.string ⟨#[]⟩)]:=by kernel_rfl
def gapV (c : Crf) (tk : Int) : Int:=bif c.on then bif decide (gapD tk c.tk ≥ 10) then bif decide (gapD tk c.tk ≤ 10000) then IntKind.i64.wrap (gapD tk c.tk) else 0 else 0 else 0
def stp1 (c : Crf) (tk : Int) : Stp:={ stp0 tk with gap:=gapV c tk,seen:={ (stp0 tk).seen with gap:=gapV c tk == 0 } }
def lateX (c : Crf) (rt : Int × Unit→Bool) (tk : Int) : Bool:=bif !rt (tk,()) then true else bif c.on then decide (tk ≤ c.tk) else false
def cstH (F : StOps) (c : Crf) (tk : Int) (b : ByteArray) : CX:=F.he (stp1 c tk,c,rds0) (b,())
def cstD (F : StOps) (x : CX) : CX:=bif x.2.2.p3 then (x.1,{ x.2.1 with drift:=(F.bd false (x.2.1.drift,x.2.2.r3.v,x.2.2.r3.tk,())).1 },x.2.2) else x
def cstF (F : StOps) (x : CX) : CX:=bif x.2.1.plan.mode == 2 then bif !x.1.seen.gap then F.fi x else x else x
def cstT (F : StOps) (x : CX) : ByteArray:=bif x.2.1.plan.mode == 0 then teB F x (F.dp false (x.2.1.drift,())).1 else teB F x V3.zero
def onX (tk : Int) (x : CX) : CX:=(x.1,{ x.2.1 with on:=true,tk:=tk },x.2.2)
def endX (F : StOps) (tk : Int) (x : CX) : CX:=onX tk (F.pl (cstF F (F.lk (cstD F x))))
abbrev StpA:=Crf × Int × ByteArray × Unit
def stepO (F : StOps) (p : StpA) : Two Crf ByteArray:=bif lateX p.1 F.rt p.2.1 then ⟨p.1,⟨#[]⟩⟩ else ⟨(endX F p.2.1 (cstH F p.1 p.2.1 p.2.2.1)).2.1,cstT F (endX F p.2.1 (cstH F p.1 p.2.1 p.2.2.1))⟩
def driftOk (F : StOps) (x : CX) : Bool:=bif x.2.2.p3 then F.bp (x.2.1.drift,x.2.2.r3.v,x.2.2.r3.tk,()) else true
def stepPreO (F : StOps) (p : StpA) : Bool:=bif lateX p.1 F.rt p.2.1 then true else F.hp (stp1 p.1 p.2.1,p.1,rds0) (p.2.2.1,()) && driftOk F (cstH F p.1 p.2.1 p.2.2.1)
section
variable {F : StOps} (hG : GamOk Tryz.prog (gamSt F)) (c : Crf) (tk : Int) (b : ByteArray)
include hG
theorem cst_p2 : RunsTo Tryz.prog 106 (cstL 2) (cstI c tk b) .normal (cstX (stp0 tk,c,rds0) tk b):=by
  have h:=gRun_runs (E:=cstE F) hG (cst_q2 F c tk b)
  intro w0 own σ0 lo0 hi0 a w hst Q hQ
  refine h w0 own σ0 lo0 hi0 a w hst Q fun a' w' h'=>hQ a' w' ?_
  refine h'.retell csM (ob:=.map #[] 0) (ob1:=rdsObj rds0) (by kernel_rfl) (fun o ho=>?_) rfl (fun b c hb=>?_) rfl rfl
  · have ho : o = .map #[] 0:=ho
    subst ho
    exact ⟨#[],0,rfl,List.Perm.nil⟩
  · exact hget_last (r:=[(csA,.row 44 (crfRow _)),(csB,.row 44 (crfRow crf0)),(csS,.row 145 (stpAt csA csM (stp0 tk)))]) hb
theorem cst_p3 : RunsTo Tryz.prog 106 (cstL 3) (cstX (stp0 tk,c,rds0) tk b) .normal (cstX ({ stp0 tk with gap:=gapV c tk },c,rds0) tk b):=by
  have e:=cst_q3 F tk b (stp0 tk,c,rds0)
  dsimp only at e
  have e2 : gRun Tryz.prog (cstE F) 106 (cstL 3) (cstX (stp0 tk,c,rds0) tk b) [csA,csB,csS,csM] [1,2,3,6,7,8] = some (.normal,cstX ({ stp0 tk with gap:=gapV c tk },c,rds0) tk b):=by
    rw [e]
    unfold gapV
    cases c.on
    · rfl
    · cases decide (gapD tk c.tk ≥ 10)
      · rfl
      · cases decide (gapD tk c.tk ≤ 10000) <;> rfl
  exact gRun_runs (E:=cstE F) hG e2
theorem cst_p6 (x : CX) (hd : driftOk F x = true) : RunsTo Tryz.prog 106 (cstL 6) (cstY x tk) .normal (cstY (cstD F x) tk):=by
  have e:=cst_q6 F tk x
  unfold driftOk at hd
  unfold cstD
  cases hp : x.2.2.p3 with
  | true =>
    rw [hp] at e hd
    simp only [cond_true] at e hd
    rw [hd,cond_true] at e
    exact gCut_runs (E:=cstE F) hG e rfl (cst_k ..) rfl
  | false =>
    rw [hp] at e
    exact gCut_runs (E:=cstE F) hG e rfl (cst_k ..) rfl
theorem cst_p8 (x : CX) : RunsTo Tryz.prog 106 (cstL 8) (cstY x tk) .normal (cstY (cstF F x) tk):=by
  have e:=cst_q8 F tk x
  unfold cstF
  refine gRun_runs (E:=cstE F) hG (e.trans ?_)
  cases x.2.1.plan.mode == 2
  · rfl
  · cases x.1.seen.gap <;> rfl
theorem cst_p11 (x : CX) : RunsTo Tryz.prog 106 (cstR 11) (cstY x tk) .ret (cstZ x.2.1 (cstT F x) csE):=by
  have e:=cst_q11 F tk x
  have e2 : gCut Tryz.prog (cstE F) 106 (cstR 11) (cstY x tk) csE [csB] [6,7] = some (.ret,cstZ x.2.1 (cstT F x) csE):=by
    rw [e]
    unfold cstT
    cases x.2.1.plan.mode == 0 <;> rfl
  exact gCut_runs (E:=cstE F) hG e2 rfl (by kernel_rfl) rfl
theorem cst_late (h : lateX c F.rt tk = true) : RunsTo Tryz.prog 106 (cstL 1) (cstI c tk b) .ret (cstI1 c tk b):=by
  have e:=cst_q1 F c tk b
  refine gRun_runs (E:=cstE F) hG (e.trans ?_)
  unfold lateX at h
  revert h
  cases F.rt (tk,()) <;> cases c.on <;> cases decide (tk ≤ c.tk) <;> intro h <;> first | rfl | cases h
theorem cst_soon (h : lateX c F.rt tk = false) : RunsTo Tryz.prog 106 (cstL 1) (cstI c tk b) .normal (cstI c tk b):=by
  have e:=cst_q1 F c tk b
  refine gRun_runs (E:=cstE F) hG (e.trans ?_)
  unfold lateX at h
  revert h
  cases F.rt (tk,()) <;> cases c.on <;> cases decide (tk ≤ c.tk) <;> intro h <;> first | rfl | cases h
theorem cst_p5 (x : CX) (h : F.hp x (b,()) = true) : RunsTo Tryz.prog 106 (cstL 5) (cstX x tk b) .normal (cstY (F.he x (b,())) tk):=by
  have e:=cst_q5 F tk b x
  rw [h,cond_true] at e
  exact gRun_runs (E:=cstE F) hG e
theorem cst_all (hl : lateX c F.rt tk = false) (hp : F.hp (stp1 c tk,c,rds0) (b,()) = true) (hd : driftOk F (cstH F c tk b) = true) :
    RunsTo Tryz.prog 106 (.seq (cstL 0) (.seq (cstL 1) (.seq (cstL 2) (.seq (cstL 3) (.seq (cstL 4) (.seq (cstL 5) (.seq (cstL 6) (.seq (cstL 7) (.seq (cstL 8) (.seq (cstL 9) (.seq (cstL 10) (cstR 11)))))))))))) (startS 106 [.val (Cod.enc c),.val (.int .i64 tk),.val (.string b)] []) .ret
      (cstZ (endX F tk (cstH F c tk b)).2.1 (cstT F (endX F tk (cstH F c tk b))) csE):=by
  refine .seq (gRun_runs (E:=cstE F) hG (cst_q0 F c tk b)) (.seq (cst_soon hG c tk b hl) (.seq (cst_p2 hG c tk b) (.seq (cst_p3 hG c tk b) (.seq (gRun_runs (E:=cstE F) hG (cst_q4 F tk b _)) (.seq (cst_p5 hG tk b (stp1 c tk,c,rds0) hp) (.seq (cst_p6 hG tk _ hd) ?_))))))
  exact .seq (gRun_runs (E:=cstE F) hG (cst_q7 F tk _)) (.seq (cst_p8 hG tk _) (.seq (gRun_runs (E:=cstE F) hG (cst_q9 F tk _)) (.seq (gRun_runs (E:=cstE F) hG (cst_q10 F tk _)) (cst_p11 hG tk _))))
theorem okStep : SumOk Tryz.prog 25 (S0w (stepPreO F) (stepO F)):=by
  intro args cs r cs' hs
  obtain ⟨⟨c,tk,b,_⟩,hp,rfl,rfl,rfl,rfl⟩:=S0w_sel hs
  unfold stepPreO at hp
  dsimp only at hp
  cases hl : lateX c F.rt tk with
  | true =>
    have e : stepO F (c,tk,b,()) = ⟨c,⟨#[]⟩⟩:=by unfold stepO; dsimp only; rw [hl]; rfl
    rw [e]
    exact sum_runs f25_is cst_is cst_N (by show 3 ≤ 106; omega) (by simp) rfl rfl rfl (.inr rfl) (.seq (gRun_runs (E:=cstE F) hG (cst_q0 F c tk b)) (RunsTo.seqR (cst_late hG c tk b hl))) (cst_resI ..) rfl rfl (fun _ _ h=>by simp at h) rfl rfl
  | false =>
    rw [hl,cond_false,Bool.and_eq_true] at hp
    have e : stepO F (c,tk,b,()) = ⟨(endX F tk (cstH F c tk b)).2.1,cstT F (endX F tk (cstH F c tk b))⟩:=by unfold stepO; dsimp only; rw [hl]; rfl
    rw [e]
    exact sum_runs f25_is cst_is cst_N (by show 3 ≤ 106; omega) (by simp) rfl rfl rfl (.inr rfl) (cst_all hG c tk b hl hp.1 hp.2) (cst_resZ ..) rfl rfl (fun _ _ h=>by simp at h) rfl rfl
end
end Go.Ab
namespace Go.Ab
open Go Go.Proofs
structure N8 where
  n : Nat
instance : Cod N8 where
  enc x:=.int .u8 x.n
  dec v:=match v with | .int .u8 (.ofNat n)=>some ⟨n⟩ | _=>none
  law v a h:=by split at h <;> simp_all; subst h; rfl
def idxV (p : ByteArray × N8 × Unit) : Int:=Lib.indexByte p.1.data.toList p.2.1.n.toUInt8
noncomputable def iC : Code:=Tryz.f241.body.getD .skip
noncomputable def iR0 : Code:=seqL iC
noncomputable def iO : Array Oper:=regO (seqL (seqR iC))
theorem iC_is : Tryz.f241.body = some (.seq iR0 (.seq (.region 1 iO false) .ret)):=by kernel_rfl
def iS (s : ByteArray) (c : Int) : St:=mkSt 8 [0,1] [.string s,.int .u8 c] [] [] [] 4096 frH frT
def iT (s : ByteArray) (c : Int) : St:=mkSt 8 [5,6] [.string s,.int .u8 c] [] [] [] 4096 frH frT
def iE (r : Int) : St:=mkSt 8 [4] [.int .i64 r] [] [] [] 4096 frH frT
theorem ir0 (s : ByteArray) (c : Int) : frRun [] 8 iR0 ⟨[Value.string s,.int .u8 c].map .val ++ List.replicate (8 - [Value.string s,.int .u8 c].length) (.val undef),[],4096,frH,frT,[]⟩ [] [0,1] = some (.normal,iS s c):=by kernel_rfl
theorem zf22_is : Tryz.prog.funcs[252]? = some Tryz.f252:=by kernel_rfl
theorem f22_n : (Tryz.f252.name == "runtime.NumGoroutine") = false := by kernel_rfl
theorem f22_b : Tryz.f252.body.isNone = true:=by kernel_rfl
theorem f22_x : Extern.findNext Tryz.f252 = none:=by kernel_rfl
theorem f22_e : Extern.find Tryz.f252 = some Extern.BytealgIndexByte.indexByte:=by kernel_rfl
def cIdx : Call:={ callee:=.value (.func 252),args:=#[.tmp 5,.tmp 6],argTypes:=#[9,5] }
theorem ig2 : sigOf iO 2 = some (.call cIdx,some 7,true):=by kernel_rfl
theorem ign : List.range iO.size = (List.range (iO.toList.take 2).length).map (0 + ·) ++ (2 :: ((List.range (iO.toList.drop 3).length).map (3 + ·) ++ [])):=by kernel_rfl
theorem ir1 (s : ByteArray) (c : Int) : frOps 8 iO (iO.toList.take 2) (iS s c) [] [5,6] = some (true,iT s c):=by kernel_rfl
theorem ir2 (s : ByteArray) (c r : Int) : frOps 8 iO (iO.toList.drop 3) { iT s c with tmps:=(iT s c).tmps.set 7 (.val (.int .i64 r)) } [] [4] = some (true,iE r):=by kernel_rfl
theorem io1 (s : ByteArray) (c : Int) : okNamed (iS s c) = true:=by kernel_rfl
theorem io2 (s : ByteArray) (c : Int) : okNamed (iT s c) = true:=by kernel_rfl
theorem io3 (r : Int) : okNamed (iE r) = true:=by kernel_rfl
theorem il2 (s : ByteArray) (c : Int) : (iT s c).tmps.length = 8:=by kernel_rfl
theorem ires (r : Int) : resA Tryz.prog (iE r) Tryz.f241.results.toList = some [.val (.int .i64 r)]:=by kernel_rfl
theorem zf21_is : Tryz.prog.funcs[241]? = some Tryz.f241:=by kernel_rfl
theorem idx_calls (s : ByteArray) (c : Nat) (w : World) : Calls Tryz.prog 241 #[.string s,.int .u8 c] w fun e w'=>∃ v,e = .returned v ∧ RowKit.Below w.heap.size w w' ∧ v = .int .i64 (Lib.indexByte s.data.toList c.toUInt8):=by
  refine calls_of_wp zf21_is iC_is ?_
  have hst:=Stand.start (N:=8) [.string s,.int .u8 c] w 4096 frH frT (by simp)
  refine wp_seq ((runs_drop frCall _ _ (ir0 s c)).stand (io1 ..) hst fun a1 w1 h1=>?_)
  refine wp_seq (wp_region ?_)
  rw [ign]
  refine ops_stand (frCall _) (qf:=isSum ([] : Gam)) [] _ (ir1 s c) (fun _ _ hj=>take_at hj) (io2 ..) h1 _ fun a2 w2 h2=>?_
  refine op_here ig2 (by omega) (il2 ..) h2 (v:=.int .i64 (Lib.indexByte s.data.toList c.toUInt8)) (fun o ho=>?_) _ fun a3 h3=>?_
  · have hx : a2.eval (.tmp 5) = .string s:=h2.eval (t:=5) rfl
    have hy : a2.eval (.tmp 6) = .int .u8 c:=h2.eval (t:=6) rfl
    have e : a2.eval (.func 252) = .func (.func 252) #[] #[]:=rfl
    have hargs : cIdx.args.map a2.eval = #[.string s,.int .u8 c]:=by simp [cIdx,hx,hy]
    have hcal : cIdx.callee = .value (.func 252):=rfl
    have hrun:=run_callFunc_extern (P:=Tryz.prog) zf22_is f22_n f22_b f22_x f22_e #[.string s,.int .u8 (c : Int)] w2
    rw [Lib.run_indexByteString] at hrun
    simp only [execOp,ho,resolve,hcal,e,Deferred.ofValue,Sem.run_bind,Sem.run_pure,Result.andThen_ok,invoke,hargs,Array.empty_append,Array.append_empty,hrun,Int.toNat_natCast]
  refine ops_stand (frCall _) (qf:=isSum ([] : Gam)) [] _ (ir2 s c _) (fun _ _ hj=>drop_at hj) (io3 ..) h3 [] fun a4 w4 h4=>?_
  obtain ⟨y1,y2,y3⟩:=h4.results (P:=Tryz.prog) (fn:=Tryz.f241) (ires _)
  exact wp_ret (bodyPost_ret y1 y2 ⟨_,rfl,y3.below,rfl⟩)
theorem okIdx21 : SumOk Tryz.prog 241 (S0w (fun _=>true) idxV):=S0w_of fun a w _=>idx_calls a.1 a.2.1.n w
theorem idx20 (pre : ByteArray × N8 × Unit→Bool) (g : ByteArray × N8 × Unit→Int) (s : ByteArray) (c : N8) : fnSum Tryz.prog { gam:=[(241,S0w pre g)] } [] 20 207 [.val (.string s),.val (.int .u8 c.n)] [] = bif pre (s,c,()) then some (.val (.int .i64 (g (s,c,()))),[]) else none:=by kernel_rfl
theorem okIdx : SumOk Tryz.prog 207 (S0w (fun _=>true) idxV):=by
  have hG : GamOk Tryz.prog [(241,S0w (fun _=>true) idxV)]:=.cons okIdx21 .nil
  refine S0w_of fun a w _=>?_
  obtain ⟨s,c,_⟩:=a
  exact Calls.mono (calls_of_sum (E:={ gam:=[(241,S0w (fun _=>true) idxV)] }) hG (d:=20) (f:=207) (vals:=[.string s,.int .u8 c.n]) (v:=Cod.enc (idxV (s,c,()))) ((idx20 _ _ s c).trans rfl) w) fun e w' h=>⟨_,h.1,h.2,rfl⟩
end Go.Ab
namespace Go.Ab
open Go
def ChainR (Ex : It→Prop) : List It→U→U→Prop
  | [],u,u'=>u' = u
  | it :: r,u,u'=>(∀ x ∈ it.rd,u x.1 = some x.2) ∧ Ex it ∧ ChainR Ex r (upd u it.wr) u'
def ExR (P : Program) (ops : Array Oper) (R : U→Act→World→Prop) (Q : Exit→Act→World→Prop) (it : It) : Prop :=
  ∀ (u : U) (a : Act) (w : World),R u a w→(∀ x ∈ it.rd,u x.1 = some x.2)→∀ K : Act→World→Prop,(∀ a' w',R (upd u it.wr) a' w'→K a' w')→wpOp P ops Q it.i K a w
section
variable {Ex : It→Prop}
theorem ChainR.over {wr : Wr} : ∀ {items : List It} {u u' : U},ChainR Ex items u u'→(∀ it ∈ items,(∀ p ∈ wr,∀ q ∈ it.rd,q.1 ≠ p.1) ∧ (∀ p ∈ wr,∀ q ∈ it.wr,q.1 ≠ p.1)) →
    ChainR Ex items (upd u wr) (upd u' wr)
  | [],u,u',h,_=>by simp only [ChainR] at h ⊢; rw [h]
  | it :: r,u,u',h,hd=>by
    obtain ⟨h1,h2,h3⟩:=h
    have hd0:=hd it (List.mem_cons_self ..)
    refine ⟨fun x hx=>?_,h2,?_⟩
    · rw [upd_none _ _ _ fun p hp e=>hd0.1 p hp x hx e.symm]
      exact h1 x hx
    · rw [upd_comm u wr it.wr fun p hp q hq e=>hd0.2 p hp q hq e.symm]
      exact ChainR.over h3 fun x hx=>hd x (List.mem_cons_of_mem _ hx)
theorem ChainR.append : ∀ {a b : List It} {u v w : U},ChainR Ex a u v→ChainR Ex b v w→ChainR Ex (a ++ b) u w
  | [],_,_,_,_,h,k=>by simp only [ChainR] at h; subst h; exact k
  | _ :: _,_,_,_,_,h,k=>⟨h.1,h.2.1,ChainR.append h.2.2 k⟩
theorem ChainR.split : ∀ {a b : List It} {u w : U},ChainR Ex (a ++ b) u w→∃ v,ChainR Ex a u v ∧ ChainR Ex b v w
  | [],_,u,_,h=>⟨u,rfl,h⟩
  | _ :: _,_,_,_,h=>by
    obtain ⟨v,h1,h2⟩:=ChainR.split h.2.2
    exact ⟨v,⟨h.1,h.2.1,h1⟩,h2⟩
theorem ChainR.stays : ∀ {items : List It} {u u' : U} {l : Loc},ChainR Ex items u u'→(∀ it ∈ items,∀ p ∈ it.wr,p.1 ≠ l)→u' l = u l
  | [],u,u',l,h,_=>by simp only [ChainR] at h; rw [h]
  | it :: r,u,u',l,h,hd=>by
    rw [ChainR.stays h.2.2 fun x hx=>hd x (List.mem_cons_of_mem _ hx),upd_none _ _ _ (hd it (List.mem_cons_self ..))]
theorem ChainR.first {pre post : List It} {it : It} {u u' : U} (h : ChainR Ex (pre ++ it :: post) u u') (hi : ∀ p ∈ pre,Indep p it) : ChainR Ex (it :: (pre ++ post)) u u':=by
  obtain ⟨v,h1,h2,h3,h4⟩:=ChainR.split h
  refine ⟨fun x hx=>?_,h3,?_⟩
  · rw [← ChainR.stays h1 fun p hp q hq=>(hi p hp).1 q hq x hx]
    exact h2 x hx
  · refine ChainR.append (ChainR.over h1 fun p hp=>⟨fun q hq r hr=>(hi p hp).2.2 r hr q hq,fun q hq r hr=>(hi p hp).2.1 r hr q hq⟩) h4
end
section
variable {P : Program} {ops : Array Oper} {R : U→Act→World→Prop} {Q : Exit→Act→World→Prop}
theorem chainR_any : ∀ (n : Nat) (items : List It) (listed : Array Bool) (u u' : U) (a : Act) (w : World),items.length = n→ChainR (ExR P ops R Q) items u u'→R u a w →
    listed.size = ops.size→(∀ j,j < ops.size→(listed.getD j true = false ↔ ∃ it ∈ items,it.i = j))→(∀ it ∈ items,it.i < ops.size)→(items.map (·.i)).Nodup →
    Closed ops listed→(∀ (pre post : List It) (it : It) (ls : Array Bool),Closed ops ls→(pre ++ it :: post).Sublist items →
      it.i ∈ Region.ready .any ops ls→(∀ p ∈ pre,ls.getD p.i true = false)→∀ p ∈ pre,Indep p it) →
    (∀ (ls : Array Bool) (l : List It),ls.size = ops.size→l.Sublist items→l ≠ []→(∀ j,j < ops.size→(ls.getD j true = false ↔ ∃ it ∈ l,it.i = j))→Region.ready .any ops ls ≠ []) →
    (∀ a' w',R u' a' w'→Q .normal a' w')→wpAny P .any ops Q n listed a w
  | 0,items,listed,u,u',a,w,hl,hc,hf,hls,hli,_,_,_,_,_,hQ=>by
    have : items = []:=List.eq_nil_of_length_eq_zero hl
    subst this
    simp only [ChainR] at hc
    subst hc
    refine ⟨?_,hQ a w hf⟩
    cases hr : Region.ready .any ops listed with
    | nil=>rfl
    | cons x xs =>
      have hx : x ∈ Region.ready .any ops listed:=by rw [hr]; simp
      obtain ⟨h1,o,h2,_⟩:=mem_ready.1 hx
      have hlt : x < ops.size:=(Array.getElem?_eq_some_iff.1 h2).1
      obtain ⟨it,h3,_⟩:=(hli x hlt).1 h1
      cases h3
  | n + 1,items,listed,u,u',a,w,hl,hc,hf,hls,hli,hlt,hnd,hcl,hind,hne,hQ=>by
    refine ⟨fun h0=>absurd h0 (hne listed items hls (List.Sublist.refl _) (by intro e; subst e; cases hl) hli),fun j hj=>?_⟩
    obtain ⟨h1,o,h2,_⟩:=mem_ready.1 hj
    have hjlt : j < ops.size:=(Array.getElem?_eq_some_iff.1 h2).1
    obtain ⟨it,hit,rfl⟩:=(hli j hjlt).1 h1
    obtain ⟨pre,post,rfl⟩:=List.append_of_mem hit
    have hpre : ∀ p ∈ pre,listed.getD p.i true = false:=fun p hpp=>(hli p.i (hlt p (by simp [hpp]))).2 ⟨p,by simp [hpp],rfl⟩
    have hc':=ChainR.first hc (hind pre post it listed hcl (List.Sublist.refl _) hj hpre)
    obtain ⟨c1,c2,c3⟩:=hc'
    have hsub : (pre ++ post).Sublist (pre ++ it :: post):=List.Sublist.append (List.Sublist.refl _) (List.sublist_cons_self ..)
    have hsubm : ∀ p ∈ pre ++ post,p ∈ pre ++ it :: post:=fun p hpp=>hsub.subset hpp
    have hnotin : ∀ p ∈ pre ++ post,p.i ≠ it.i:=by
      intro p hpp e
      simp only [List.map_append,List.map_cons] at hnd
      rw [List.nodup_append] at hnd
      rcases List.mem_append.1 hpp with h | h
      · exact hnd.2.2 p.i (List.mem_map.2 ⟨p,h,rfl⟩) it.i (by simp) e
      · exact (List.nodup_cons.1 hnd.2.1).1 (e ▸ List.mem_map.2 ⟨p,h,rfl⟩)
    have hset : ∀ k,k < ops.size→((listed.setIfInBounds it.i true).getD k true = false ↔ ∃ x ∈ pre ++ post,x.i = k):=by
      intro k hk
      by_cases e : k = it.i
      · subst e
        have : (listed.setIfInBounds it.i true).getD it.i true = true:=by simp [hls,hjlt]
        rw [this]
        constructor
        · intro h; cases h
        · rintro ⟨x,hx,e⟩; exact absurd e (hnotin x hx)
      · rw [getD_set_ne true (Ne.symm e),hli k hk]
        constructor
        · rintro ⟨x,hx,rfl⟩
          refine ⟨x,?_,rfl⟩
          simp only [List.mem_append,List.mem_cons] at hx ⊢
          rcases hx with h | rfl | h
          · exact .inl h
          · exact absurd rfl e
          · exact .inr h
        · rintro ⟨x,hx,rfl⟩; exact ⟨x,hsubm x hx,rfl⟩
    refine c2 u a w hf c1 _ fun a' w' hf'=>?_
    refine chainR_any n (pre ++ post) (listed.setIfInBounds it.i true) _ u' a' w' ?_ c3 hf' (by simpa using hls) hset (fun x hx=>hlt x (hsubm x hx))
      (hnd.sublist (hsub.map _)) (hcl.set hj) (fun pre' post' it' ls h0 h4=>hind pre' post' it' ls h0 (h4.trans hsub))
      (fun ls l h0 h1=>hne ls l h0 (h1.trans hsub)) hQ
    simp only [List.length_append,List.length_cons] at hl ⊢; omega
theorem wpAny_of_chainR {items : List It} (hlen : items.length = ops.size) (hix : ∀ (k : Nat) (it : It),items[k]? = some it→it.i = k) (hok : anyOk ops.toList (items.map It.foot) = true) {u u' : U} {a : Act} {w : World}
    (hc : ChainR (ExR P ops R Q) items u u') (hf : R u a w)
    (hQ : ∀ a' w',R u' a' w'→Q .normal a' w') : wpAny P .any ops Q ops.size (Array.replicate ops.size false) a w:=by
  simp only [anyOk,Bool.and_eq_true] at hok
  obtain ⟨hed,hchk⟩:=hok
  have hB : BefOk ops.toList (befs ops.toList []):=by
    have:=befs_ok ops.toList [] [] ⟨rfl,fun j o m h=>by simp at h⟩
    simpa using this
  have hspec:=(chk_spec _ _ 0 [] hchk).2
  have hinc : items.Pairwise fun a b=>a.i < b.i:=by
    rw [List.pairwise_iff_getElem]
    intro p q hp1 hq1 hpq
    rw [hix p _ (List.getElem?_eq_getElem hp1),hix q _ (List.getElem?_eq_getElem hq1)]
    exact hpq
  have hmem : ∀ it ∈ items,items[it.i]? = some it ∧ it.i < ops.size:=by
    intro it hit
    obtain ⟨k,hk,e⟩:=List.getElem_of_mem hit
    have h1 : items[k]? = some it:=by rw [List.getElem?_eq_getElem hk,e]
    have:=hix k it h1
    rw [this]
    exact ⟨h1,by omega⟩
  refine chainR_any ops.size items (Array.replicate ops.size false) u u' a w hlen hc hf (by simp) (fun j hj=>?_) (fun it hit=>(hmem it hit).2) ?_ ?_ ?_ ?_ hQ
  · have h1 : (Array.replicate ops.size false).getD j true = false:=by simp [hj]
    refine ⟨fun _=>⟨items[j],List.getElem_mem _,hix j _ (List.getElem?_eq_getElem (by omega))⟩,fun _=>h1⟩
  · rw [List.Nodup,List.pairwise_map]
    exact hinc.imp fun h=>Nat.ne_of_lt h
  · intro j o _ h
    by_cases hj : j < ops.size
    · simp [hj] at h
    · simp [hj] at h
  · intro pre post it ls hcl hsub hready hpre p hpp
    have hit : it ∈ items:=hsub.subset (by simp)
    have hpit : p ∈ items:=hsub.subset (by simp [hpp])
    have hlt : p.i < it.i:=by
      have:=hinc.sublist hsub
      rw [List.pairwise_append] at this
      exact this.2.2 p hpp it (by simp)
    obtain ⟨h1,o,h2,h3⟩:=mem_ready.1 hready
    obtain ⟨hi1,hi2⟩:=hmem it hit
    obtain ⟨hp1,hp2⟩:=hmem p hpit
    have hm : it.i < (befs ops.toList []).length:=by rw [hB.1]; simpa using hi2
    rcases hspec p.i it.i p.foot it.foot (befs ops.toList [])[it.i] hlt (by simp [hp1]) (by simp [hi1]) (List.getElem?_eq_getElem hm) with h | h
    · exfalso
      rw [Nat.zero_add] at h
      obtain ⟨e,h4,h5⟩:=hB.2 it.i o _ (by simpa using h2) (List.getElem?_eq_getElem hm) p.i h
      obtain ⟨ed,h6,h7,h8⟩:=mem_binding.1 h4
      have hl:=h3 ed h6 h7
      rw [h8] at hl
      have hpl : ls.getD p.i false = true:=by
        rcases h5 with h5 | ⟨m',h9,h10⟩
        · rw [h5]; exact hl
        · exact listed_bef hcl hed hB (e + 1) e (by omega) hl m' p.i h9 h10
      have hpf:=hpre p hpp
      rcases Nat.lt_or_ge p.i ls.size with hx | hx
      · simp [hx] at hpl hpf; rw [hpl] at hpf; cases hpf
      · simp [Array.getElem?_eq_none hx] at hpl
    · exact indepF_spec h
  · intro ls l hsz hsub hne hiff hnil
    cases l with
    | nil=>exact hne rfl
    | cons it r =>
      have hit : it ∈ items:=hsub.subset (by simp)
      obtain ⟨hi1,hi2⟩:=hmem it hit
      have hinc':=hinc.sublist hsub
      rw [List.pairwise_cons] at hinc'
      have : it.i ∈ Region.ready .any ops ls:=by
        refine mem_ready.2 ⟨(hiff it.i hi2).2 ⟨it,by simp,rfl⟩,ops[it.i],Array.getElem?_eq_getElem hi2,fun e he hb=>?_⟩
        have hlt:=edgesOk_spec _ 0 hed it.i ops[it.i] (by simp [Array.getElem?_eq_getElem hi2]) e.on (mem_binding.2 ⟨e,he,hb,rfl⟩)
        rw [Nat.zero_add] at hlt
        have hlt2 : e.on < ls.size:=by omega
        cases hv : ls.getD e.on true with
        | false =>
          obtain ⟨x,hx,hxe⟩:=(hiff e.on (by omega)).1 hv
          simp only [List.mem_cons] at hx
          rcases hx with rfl | hx
          · omega
          · have:=hinc'.1 x hx; omega
        | true=>simp [hlt2] at hv ⊢; exact hv
      rw [hnil] at this
      cases this
end
end Go.Ab
