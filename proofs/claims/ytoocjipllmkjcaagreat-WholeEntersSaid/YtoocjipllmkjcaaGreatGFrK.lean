/- A part of the proofs: lemmas, no statement of their own; no condition. -/
import Derived.Test.YtoocjipllmkjcaaGreatGFrC
import Derived.Test.YtoocjipllmkjcaaGreatGFuC0
import Derived.Test.YtoocjipllmkjcaaGreatGRtF
set_option linter.unusedSimpArgs false
namespace Go.Ab
open Go Go.Proofs
def bsL(l:List UInt8):ByteArray:=⟨l.toArray⟩
def G0j(k:Nat)(d:List UInt8):List UInt8:=UInt8.ofNat k :: UInt8.ofNat d.length :: d
def H0m(k:Nat)(d:List UInt8):List UInt8:=165 :: (G0j k d++[UInt8.ofNat (crcF (G0j k d) 65535 / 256),UInt8.ofNat (crcF (G0j k d) 65535 % 256)])
def K0d(x:Fr):Two ByteArray Bool:=bif decide (x.kind<0)||(decide (x.kind>255)||decide ((x.data.size:Int)>64)) then ⟨⟨#[]⟩,false⟩ else ⟨bsL (H0m x.kind.toNat x.data.data.toList),true⟩
theorem A1b:∀(l:List UInt8) (r:ByteArray),(l.map (fun b=>(b.toNat:Int))).foldl R0j r=⟨r.data++l.toArray⟩
 | [],r=>by simp
 | b :: l,r=>by
  rw[List.map_cons,List.foldl_cons,A1b l]
  have e:R0j r (b.toNat:Int)=r.push b:=by unfold R0j;rw[Int.toNat_natCast,UInt8.ofNat_toNat]
  rw[e]
  simp[ByteArray.push]
theorem L1a(l:List UInt8):(l.map (fun b=>(b.toNat:Int))).foldl R0j ByteArray.empty=bsL l:=by
 rw[A1b]
 show ByteArray.mk (#[]++l.toArray)=_
 rw[Array.empty_append]
 rfl
structure Live(W:World)(F:Nat→Prop)(wb:World):Prop where
 old:∀k,k<W.heap.size→F k
 chain:∀w'',Keep F wb w''→Keep (fun k=>k<W.heap.size) W w''
theorem Live.start(W:World):Live W (fun k=>k<W.heap.size) W:=⟨fun _ h=>h,fun _ h=>h⟩
theorem Live.step{W wb w w':World}{F:Nat→Prop}{N:Nat}{s:St}{a:Act}(h:Live W F wb)(hh:A0t F wb N s a w)(h1:w'.os=w.os)(h2:w'.tape=w.tape)(h3:w'.output=w.output)(hg:w.heap.size≤w'.heap.size)
  (hs:∀j,j<W.heap.size→w'.heap[j]?=w.heap[j]?):Live W (Wide F w w') w':=by
 refine ⟨fun k hk=>.inl (h.old k hk),fun w'' k=>?_⟩
 have k0:=h.chain w hh.keep
 exact ⟨k.os.trans (h1.trans k0.os),k.tape.trans (h2.trans k0.tape),k.output.trans (h3.trans k0.output),Nat.le_trans k0.grown (Nat.le_trans hg k.grown),
  fun x hx=>⟨hx,(k.frame x (.inl (h.old x hx))).2.trans ((hs x hx).trans (k0.frame x hx).2)⟩⟩
theorem Live.grown{W wb w w':World}{F:Nat→Prop}{N:Nat}{s:St}{a:Act}(h:Live W F wb)(hh:A0t F wb N s a w){row:Option Nat}(hg:w.grownBy w' row)(hr:∀r,row=some r→W.heap.size≤r):Live W (Wide F w w') w' :=
 h.step hh hg.os hg.tape hg.output hg.size fun j hj=>hg.block j (by have :=(h.chain w hh.keep).grown;omega) fun e=>by have :=hr j e.symm;omega
theorem Live.size{W wb w:World}{F:Nat→Prop}{N:Nat}{s:St}{a:Act}(h:Live W F wb)(hh:A0t F wb N s a w):W.heap.size≤w.heap.size:=(h.chain w hh.keep).grown
theorem K0j(w:World)(o:Obj):w.grownBy (w.alloc o) none:=⟨rfl,rfl,rfl,by show w.heap.size≤(w.heap.push o).size;rw[Array.size_push];omega,fun k hk _=>Z0q w o k hk⟩
theorem H0e{w w':World}{base:Nat}{e:TypeId}{sz:Nat}{v:Value}{n:Nat}{xs:List Value}(h:w.ownsRow base e sz v n xs)(hk:∀r,v.ownBlock=some r→w'.heap[r]?=w.heap[r]?):w'.ownsRow base e sz v n xs:=by
 refine ⟨h.1,?_⟩
 rcases h.2 with h2 | ⟨g,cap,cur,rfl,h3,h4,h5⟩
 ·exact .inl h2
 ·exact .inr ⟨g,cap,cur,rfl,h3,by rw[hk g rfl];exact h4,h5⟩
theorem Y1r{w:World}{base:Nat}{v:Value}{n:Nat}{xs:List Value}(h:w.ownsRow base 5 1 v n xs)(hn:0<n):∃g c cur,v=.slice (some ⟨g,0,none⟩) n c∧n≤c∧w.heap[g]?=some (.cells cur 5 (0,0))∧cur.toList.take n=xs:=by
 rcases h.2 with ⟨_,h0⟩ | ⟨g,c,cur,e1,e2,e3,e4,_,_,e5⟩
 ·omega
 ·exact ⟨g,c,cur,e1,e4,e3,by simpa using e5⟩
theorem W3h(x y:Int):H0x Tryz.prog 227 3 [(0,.int .u8 (Int.ofNat 165)),(1,.int .u8 x),(2,.int .u8 y)]=some (5,[.int .u8 (Int.ofNat 165),.int .u8 x,.int .u8 y]):=by kernel_rfl
theorem W3g(x y:Int):H0x Tryz.prog 227 2 [(0,.int .u8 x),(1,.int .u8 y)]=some (5,[.int .u8 x,.int .u8 y]):=by kernel_rfl
theorem i5b:(Tryz.prog.info? 5).map (fun i=>(i.size,i.bytes))=some (1,1):=by kernel_rfl
theorem i5z:((Tryz.prog.info? 5).bind (·.zero))=some (.int .u8 0):=by kernel_rfl
theorem D5w:∃ti,Tryz.prog.info? 5=some ti∧ti.size=1∧ti.bytes=1∧ti.zero=some (.int .u8 0):=by
 cases hi:Tryz.prog.info? 5 with
 | none=>have :=i5b;rw[hi]at this;cases this
 | some ti =>
  have h1:=i5b
  have h2:=i5z
  rw[hi]at h1 h2
  simp only[Option.map_some,Option.some.injEq,Prod.mk.injEq,Option.bind_some]at h1 h2
  exact ⟨ti,rfl,h1.1,h1.2,h2⟩
theorem N0z{x:Nat}(h:x<256):((UInt8.ofNat x).toNat:Int)=x:=by
 rw[UInt8.toNat_ofNat']
 omega
theorem Z2p{P:Program}{w:World}{t e:TypeId}{ti:TypeInfo}{g n cap:Nat}(ht:P.underlying t=some (.slice e))(hi:P.info? e=some ti)(hs:ti.size=1)(hn:1≤n)(h1:1<cap) :
  (Instr.sliceAt t (.slice (some ⟨g,0,none⟩) n cap) (some (.int .i64 1)) none none).run P w=.ok (.slice (some ⟨g,1,none⟩) (n-1) (cap-1)) w:=by
 have hb:(0:Int)≤1∧(1:Int)≤(n:Int):=by omega
 have hne:¬ cap=1:=by omega
 have e:(⟨g,0,none⟩:Addr).add (1*1)=⟨g,1,none⟩:=rfl
 simp only[Instr.sliceAt,Instr.slice,Instr.sliceBounds,Instr.sliceBound,asIntOf,Sem.run_bind,Sem.run_pure,run_underlying ht,Result.andThen_ok,if_pos hb,B0q hi,hs,pure_bind,Option.isSome_none,Int.toNat_one,if_neg hne,Option.map_some,e]
theorem A4b:Tryz.prog.funcs[178]?=some Tryz.f178:=by kernel_rfl
theorem B5d : (Tryz.f231.body.isSome && !Tryz.f231.name == "runtime.NumGoroutine") = true := by kernel_rfl
theorem B0z(l:List UInt8):(bsL l).size=l.length:=by show l.toArray.size=_;simp
theorem M1g{w:World}{x:Fr}(hb:K0d x=⟨⟨#[]⟩,false⟩){F:Nat→Prop}{wb:World}(hL:Live w F wb){a1:Act}{w1:World}(h:A0t F wb 44 (wS x.kind x.data [(2,.string ⟨#[]⟩),(3,.bool false)]) a1 w1) :
  bodyPost Tryz.prog Tryz.f178 (fun e w'=>∃v,e=.returned v∧RowKit.Below w.heap.size w w'∧v=Cod.enc (K0d x)) .ret a1 w1:=by
 obtain ⟨y1,y2,y3⟩:=h.resultsV (P:=Tryz.prog) (fn:=Tryz.f178) (wqR' ..) (wpk ..)
 exact bodyPost_ret y1 y2 ⟨_,rfl,(hL.chain _ y3).below,by rw[hb];rfl⟩
theorem T2v{w:World}{k:Nat}{s:ByteArray}(hk:k≤255)(hs:s.size≤64){F:Nat→Prop}{wb:World}(hL:Live w F wb){a1:Act}{w1:World}(h1:A0t F wb 44 (wS k s []) a1 w1) :
  (Code.seq (.region 3 wO3 false) (.seq (.region 4 wO4 false) (.seq (.region 5 wO5 false) .ret))).wp Tryz.prog (bodyPost Tryz.prog Tryz.f178 (fun e w'=>∃v,e=.returned v∧RowKit.Below w.heap.size w w'∧v=.tuple #[.string (bsL (H0m k s.data.toList)),.bool true])) a1 w1:=by
 have hdl:s.data.toList.length=s.size:=rfl
 obtain ⟨ti,hti,ts,tb,tz⟩:=D5w
 refine wp_seq (wp_region ?_)
 rw[t3_n]
 refine D0p (B0n _) (qf:=B0p ([]:Gam)) [4096] _ (wq3 k s) (fun _ _ hj=>L0b hj) (ow2 ..) h1 _ fun a2 w2 h2=>?_
 rw[D1z,D1z,Nat.mod_eq_of_lt (by omega),Nat.mod_eq_of_lt (by omega)]at h2
 refine T0b t3_7 (by omega) (lw2 ..) h2 (vals:=[(0,.int .u8 (Int.ofNat 165)),(1,.int .u8 k),(2,.int .u8 s.size)]) ?_ (W3h _ _) _ fun a3 h3=>?_
 ·have e1:a2.eval (.tmp 22)=.int .u8 k:=h2.eval (t:=22) rfl
  have e2:a2.eval (.tmp 26)=.int .u8 s.size:=h2.eval (t:=26) rfl
  have e0:a2.eval (.const (.int .u8 (Int.ofNat 165)))=.int .u8 (Int.ofNat 165):=rfl
  simp only[List.map_cons,List.map_nil,e1,e2,e0]
 have L3:=hL.grown h2 (K0j w2 (.cells (List.toArray [.int .u8 (Int.ofNat 165),.int .u8 (k:Int),.int .u8 (s.size:Int)]) 5)) fun _ h=>by cases h
 have own3:=B2m w2 5 [.int .u8 (Int.ofNat 165),.int .u8 (k:Int),.int .u8 (s.size:Int)] 3 rfl (by decide)
 generalize hw3:w2.alloc (.cells (List.toArray [.int .u8 (Int.ofNat 165),.int .u8 (k:Int),.int .u8 (s.size:Int)]) 5)=w3 at h3 L3 own3
 have hsz3:w3.heap.size=w2.heap.size+1:=by rw[← hw3];exact Array.size_push ..
 refine D0p (B0n _) (qf:=B0p ([]:Gam)) [4096] _ (wq3b k k s.size s (.slice (some ⟨w2.heap.size,0,none⟩) 3 3)) (fun _ _ hj=>D4m hj) (ow3 ..) h3 _ fun a4 w4 h4=>?_
 have F2:Wide F w2 w3 w2.heap.size:=.inr ⟨Nat.le_refl _,by omega⟩
 have own4:=H0e (w':=w4) own3 fun r hr=>by cases hr;exact (h4.keep.frame _ F2).2
 have hb4:w2.heap.size≤w4.heap.size:=Nat.le_trans (by omega) h4.keep.grown
 obtain ⟨zv5,w5,hr5,own5,g5,n5⟩:=T0a (P:=Tryz.prog) w4 227 9 0 5 ti v38 v9 hti tz ts tb w2.heap.size _ 3 _ own4 (by omega) s (by simp only[maxLen];omega) (by omega) hb4
 refine P0n N5c (by omega) (lw3 ..) h4 (v:=.slice (some ⟨w2.heap.size,0,none⟩) 3 3) (u:=.string s) (h4.eval (t:=27) rfl) (h4.eval (t:=29) rfl) hr5 g5 (fun r hr=>by cases hr;exact F2) _ fun a5 h5=>?_
 have L5:=L3.grown h4 g5 fun r hr=>by cases hr;exact hL.size h2
 obtain ⟨g,c,cur,rfl,hcap,hc5,htk⟩:=Y1r own5 (by omega)
 have Fg:Wide (Wide F w2 w3) w4 w5 g:=by
  rcases n5 g rfl with h | h
  ·cases h;exact .inl F2
  ·exact .inr ⟨h,by rw[Array.getElem?_eq_some_iff]at hc5;exact hc5.1⟩
 refine D0p (B0n _) (qf:=B0p ([]:Gam)) [4096] _ (wq3c k s (.slice (some ⟨w2.heap.size,0,none⟩) 3 3) (some ⟨g,0,none⟩) (3+s.size) c) (fun _ _ hj=>D0k hj) (ow4 ..) h5 [] fun a6 w6 h6=>?_
 have hc6:w6.heap[g]?=some (.cells cur 5 (0,0)):=((h6.keep.frame _ Fg).2).trans hc5
 generalize hF5:Wide (Wide F w2 w3) w4 w5=F5 at *
 refine wp_seq (wp_region ?_)
 rw[t4_n]
 refine K0g t4_0 (by omega) (lw4 ..) h6 (v:=.slice (some ⟨g,0,none⟩) (3+s.size) c) (h6.eval (t:=4) rfl) _ fun a7 h7=>?_
 refine X0e t4_1 (by omega) (by rw[List.length_set];exact lw4 ..) h7 (v:=.slice (some ⟨g,1,none⟩) (2+s.size) (c-1)) (fun o ho=>?_) _ fun a8 h8=>?_
 ·have hx:a7.eval (.tmp 31)=.slice (some ⟨g,0,none⟩) (3+s.size) c:=h7.eval (t:=31) rfl
  have h1:a7.eval (.const (.int .i64 (Int.ofNat 1)))=.int .i64 1:=rfl
  have hrun:=Z2p (P:=Tryz.prog) (w:=w6) (g:=g) (n:=3+s.size) (cap:=c) v38 hti ts (by omega) (by omega)
  rw[show 3+s.size-1=2+s.size by omega]at hrun
  simp only[execOp,ho,hx,h1,Option.map_some,Option.map_none,Sem.run_bind,hrun,Result.andThen_ok,Sem.run_pure]
 have hbody:(cur.toList.drop 1).take (2+s.size)=((G0j k s.data.toList).map (fun b=>(b.toNat:Int))).map (Value.int .u8):=by
  rw[List.take_drop,show 1+(2+s.size)=3+s.size by omega,htk]
  unfold G0j Lib.strCells
  simp only[List.cons_append,List.nil_append,List.drop_succ_cons,List.drop_zero,List.map_cons,N0z (x:=k) (by omega),N0z (x:=s.size) (by omega),List.map_map,hdl]
  rfl
 have hstr:(convert 227 9 (.slice (some ⟨g,1,none⟩) (2+s.size) (c-1))).run Tryz.prog w6=.ok (.string (bsL (G0j k s.data.toList))) w6:=by
  rw[Y0a (g:=g) (off:=1) v38 zv5 v9 hc6 hbody (by simp[G0j,hdl];omega),L1a]
 refine X0e t4_2 (by omega) (by rw[List.length_set,List.length_set];exact lw4 ..) h8 (v:=.string (bsL (G0j k s.data.toList))) (fun o ho=>?_) _ fun a9 h9=>?_
 ·have hx:a8.eval (.tmp 32)=.slice (some ⟨g,1,none⟩) (2+s.size) (c-1):=h8.eval (t:=32) rfl
  simp only[execOp,ho,hx,Sem.run_bind,hstr,Result.andThen_ok,Sem.run_pure]
 have hbl:(G0j k s.data.toList).length=2+s.size:=by simp[G0j,hdl];omega
 have hxs:a9.eval (.tmp 33)=.string (bsL (G0j k s.data.toList)):=h9.eval (t:=33) rfl
 refine E1g t4_3 (by omega) (by rw[List.length_set,List.length_set,List.length_set];exact lw4 ..) h9 rfl A4n B5d (args:=#[.string (bsL (G0j k s.data.toList))]) (by simp[cSum,hxs]) (R1a (bsL (G0j k s.data.toList)) (by rw[B0z,hbl];omega) w6) _ fun vc a10 w10 hvc hb10 h10=>?_
 subst hvc
 have L10:=L5.step h9 hb10.os hb10.tape hb10.output hb10.size fun j hj=>hb10.block j (by have :=L5.size h9;omega)
 generalize hcr:crcF (bsL (G0j k s.data.toList)).data.toList 65535=cr at *
 have hcr':crcF (G0j k s.data.toList) 65535=cr:=by rw[← hcr];simp[bsL]
 have hcl:cr<65536:=by rw[← hcr'];exact W0g _ _ (by omega)
 refine D0p (B0n _) (qf:=B0p ([]:Gam)) [4096] _ (wq4 k s (.slice (some ⟨g,0,none⟩) (3+s.size) c) (.slice (some ⟨g,0,none⟩) (3+s.size) c) (.slice (some ⟨g,1,none⟩) (2+s.size) (c-1)) (.string (bsL (G0j k s.data.toList))) cr) (fun _ _ hj=>D0k hj) (ow5 ..) h10 [] fun a11 w11 h11=>?_
 have s6:w2.heap.size≤w6.heap.size:=Nat.le_trans hb4 (Nat.le_trans g5.size h6.keep.grown)
 have g6:g<w6.heap.size:=by rw[Array.getElem?_eq_some_iff]at hc6;exact hc6.1
 have hc10:w10.heap[g]?=some (.cells cur 5 (0,0)):=(hb10.block g g6).trans hc6
 have F10:Wide F5 w6 w10 g:=.inl Fg
 refine wp_seq (wp_region ?_)
 rw[t5_n]
 refine D0p (B0n _) (qf:=B0p ([]:Gam)) [4096] _ (wq5 k cr s (some ⟨g,0,none⟩) (3+s.size) c) (fun _ _ hj=>L0b hj) (ow6 ..) h11 _ fun a12 w12 h12=>?_
 have e38:IntKind.u8.wrap ((cr:Int).fdiv (2^8))=((cr / 256:Nat):Int):=by rw[shr8,D1z,Nat.mod_eq_of_lt (by omega)]
 rw[e38,D1z]at h12
 have hc12:w12.heap[g]?=some (.cells cur 5 (0,0)):=((h12.keep.frame _ F10).2).trans hc10
 refine T0b t5_6 (by omega) (lw6 ..) h12 (vals:=[(0,.int .u8 (cr / 256:Nat)),(1,.int .u8 (cr % 256:Nat))]) ?_ (W3g _ _) _ fun a13 h13=>?_
 ·have e1:a12.eval (.tmp 38)=.int .u8 (cr / 256:Nat):=h12.eval (t:=38) rfl
  have e2:a12.eval (.tmp 40)=.int .u8 (cr % 256:Nat):=h12.eval (t:=40) rfl
  simp only[List.map_cons,List.map_nil,e1,e2]
 have L13:=L10.grown h12 (K0j w12 (.cells (List.toArray [.int .u8 ((cr / 256:Nat):Int),.int .u8 ((cr % 256:Nat):Int)]) 5)) fun _ h=>by cases h
 have new13:(w12.alloc (.cells (List.toArray [.int .u8 ((cr / 256:Nat):Int),.int .u8 ((cr % 256:Nat):Int)]) 5)).heap[w12.heap.size]?=some (.cells (List.toArray [.int .u8 ((cr / 256:Nat):Int),.int .u8 ((cr % 256:Nat):Int)]) 5 (0,0)):=by
  show (w12.heap.push _)[w12.heap.size]?=_
  simp
 have g12:g<w12.heap.size:=by rw[Array.getElem?_eq_some_iff]at hc12;exact hc12.1
 have hc13:(w12.alloc (.cells (List.toArray [.int .u8 ((cr / 256:Nat):Int),.int .u8 ((cr % 256:Nat):Int)]) 5)).heap[g]?=some (.cells cur 5 (0,0)):=(Z0q w12 _ g g12).trans hc12
 have hsz13:(w12.alloc (.cells (List.toArray [.int .u8 ((cr / 256:Nat):Int),.int .u8 ((cr % 256:Nat):Int)]) 5)).heap.size=w12.heap.size+1:=Array.size_push ..
 generalize hw13:w12.alloc (.cells (List.toArray [.int .u8 ((cr / 256:Nat):Int),.int .u8 ((cr % 256:Nat):Int)]) 5)=w13 at h13 L13 new13 hc13 hsz13
 have own13:=H0e (w':=w13) own5 fun r hr=>by cases hr;exact hc13.trans hc5.symm
 have s13:w2.heap.size≤w13.heap.size:=by have :=hb10.size;have :=h12.keep.grown;omega
 obtain ⟨v14,w14,hr14,own14,g14,n14⟩:=P0m (P:=Tryz.prog) w13 227 0 5 ti (.int .u8 0) 1 1 v38 hti tz ts tb rfl (by omega) w2.heap.size _ (3+s.size) _ own13 ⟨w12.heap.size,0,none⟩ 2 2 [.int .u8 ((cr / 256:Nat):Int),.int .u8 ((cr % 256:Nat):Int)] rfl
  (fun j u hj=>by
   rw[G0a,Nat.zero_add]
   simp only[World.cell?,new13]
   simpa using hj) (fun u hu=>by simp only[List.mem_cons,List.not_mem_nil,or_false]at hu;rcases hu with rfl | rfl<;>rfl) (by simp only[maxLen];omega) (by omega) s13
 have F13:Wide (Wide F5 w6 w10) w12 w13 g:=.inl F10
 refine P0n t5_7 (by omega) (by rw[List.length_set];exact lw6 ..) h13 (v:=.slice (some ⟨g,0,none⟩) (3+s.size) c) (u:=.slice (some ⟨w12.heap.size,0,none⟩) 2 2) (h13.eval (t:=35) rfl) (h13.eval (t:=41) rfl) hr14 g14 (fun r hr=>by cases hr;exact F13) _ fun a14 h14=>?_
 have L14:=L13.grown h13 g14 fun r hr=>by
  cases hr
  rcases n5 g rfl with h | h
  ·cases h;exact hL.size h2
  ·exact Nat.le_trans (hL.size h2) (Nat.le_trans hb4 h)
 obtain ⟨g2,c2,cur2,rfl,hcap2,hc14,htk2⟩:=Y1r own14 (by omega)
 have hbytes:(cur2.toList.drop 0).take (3+s.size+2)=((H0m k s.data.toList).map (fun b=>(b.toNat:Int))).map (Value.int .u8):=by
  rw[List.drop_zero,htk2]
  unfold H0m
  rw[hcr']
  unfold G0j Lib.strCells
  simp only[List.cons_append,List.nil_append,List.map_cons,List.map_append,List.map_nil,N0z (x:=k) (by omega),hdl,N0z (x:=s.size) (by omega),N0z (x:=cr / 256) (by omega),N0z (x:=cr % 256) (by omega),List.map_map]
  rfl
 have hstr2:(convert 227 9 (.slice (some ⟨g2,0,none⟩) (3+s.size+2) c2)).run Tryz.prog w14=.ok (.string (bsL (H0m k s.data.toList))) w14:=by
  rw[Y0a (g:=g2) (off:=0) v38 zv5 v9 hc14 hbytes (by simp[H0m,hbl];omega),L1a]
 refine X0e t5_8 (by omega) (by rw[List.length_set,List.length_set];exact lw6 ..) h14 (v:=.string (bsL (H0m k s.data.toList))) (fun o ho=>?_) _ fun a15 h15=>?_
 ·have hx:a14.eval (.tmp 42)=.slice (some ⟨g2,0,none⟩) (3+s.size+2) c2:=h14.eval (t:=42) rfl
  simp only[execOp,ho,hx,Sem.run_bind,hstr2,Result.andThen_ok,Sem.run_pure]
 refine D0p (B0n _) (qf:=B0p ([]:Gam)) [] _ (wq5b k (cr / 256:Nat) (cr % 256:Nat) s (bsL (H0m k s.data.toList)) (.slice (some ⟨g,0,none⟩) (3+s.size) c) (.slice (some ⟨w12.heap.size,0,none⟩) 2 2) (.slice (some ⟨g2,0,none⟩) (3+s.size+2) c2)) (fun _ _ hj=>D0k hj) (ow7 ..) h15 [] fun a16 w16 h16=>?_
 obtain ⟨y1,y2,y3⟩:=h16.resultsV (P:=Tryz.prog) (fn:=Tryz.f178) (wqR ..) (wpk ..)
 exact wp_ret (bodyPost_ret y1 y2 ⟨_,rfl,(L14.chain _ y3).below,rfl⟩)
theorem C2h(x:Fr)(w:World):Calls Tryz.prog 178 #[Cod.enc x] w fun e w'=>∃v,e=.returned v∧RowKit.Below w.heap.size w w'∧v=Cod.enc (K0d x):=by
 refine calls_of_wp A4b U4y ?_
 have hst:=A0t.start (N:=44) [Cod.enc x] w 4096 frH frT (by simp)
 have L0:=Live.start w
 refine wp_seq ((A0e B0n _ _ (zwq0 x.kind x.data)).stand (ow0 ..) hst fun a1 w1 h1=>?_)
 have hrun:=zwq1 x.kind x.data
 by_cases c1:x.kind<0
 ·rw[decide_eq_true c1,cond_true]at hrun
  exact wp_seq ((A0e B0n _ _ hrun).stand (ow1 ..) h1 fun a2 w2 h2=>M1g (by unfold K0d;rw[decide_eq_true c1];rfl) L0 h2)
 by_cases c2:x.kind>255
 ·rw[decide_eq_false c1,cond_false,decide_eq_true c2]at hrun
  exact wp_seq ((A0e B0n _ _ hrun).stand (ow1 ..) h1 fun a2 w2 h2=>M1g (by unfold K0d;rw[decide_eq_false c1,decide_eq_true c2];rfl) L0 h2)
 by_cases c3:(x.data.size:Int)>64
 ·rw[decide_eq_false c1,cond_false,decide_eq_false c2,decide_eq_true c3]at hrun
  exact wp_seq ((A0e B0n _ _ hrun).stand (ow1 ..) h1 fun a2 w2 h2=>M1g (by unfold K0d;rw[decide_eq_false c1,decide_eq_false c2,decide_eq_true c3];rfl) L0 h2)
 rw[decide_eq_false c1,cond_false,decide_eq_false c2,decide_eq_false c3]at hrun
 refine wp_seq ((A0e B0n _ _ hrun).stand (ow0 ..) h1 fun a2 w2 h2=>?_)
 obtain ⟨k,hk⟩:∃k:Nat,x.kind=k:=⟨x.kind.toNat,by omega⟩
 have hv:K0d x=⟨bsL (H0m k x.data.data.toList),true⟩:=by
  unfold K0d
  rw[decide_eq_false c1,decide_eq_false c2,decide_eq_false c3,hk]
  rfl
 rw[hv]
 have h3:A0t (fun k=>k<w.heap.size) w 44 (wS k x.data []) a2 w2:=by rw[← hk];exact h2
 exact T2v (by omega) (by omega) L0 h3
theorem L4p:A0h Tryz.prog 178 (S0w (fun _=>true) fun (p:Fr×Unit)=>K0d p.1):=X0x fun a w _=>C2h a.1 w
def noV:Option (AV×List Con):=some (.val (.tuple #[.string ⟨#[]⟩,.bool false]),[])
theorem L5u(pre:ByteArray×Unit→Bool)(g:ByteArray×Unit→N16)(k:Int)(s:ByteArray):fnSum Tryz.prog {gam:=[(192,S0w pre g)]} [] 20 110 [.val (.agg #[.int .i64 k,.string s])] [] =
  let h:=List.foldl R0j ByteArray.empty [IntKind.u8.wrap k,IntKind.u8.wrap s.size]
  let b:=h++s
  let c:Int:=(g (b,())).n
  let e:=List.foldl R0j ByteArray.empty [IntKind.u8.wrap (IntKind.u16.wrap (c.tdiv 256)),IntKind.u8.wrap (c.tmod 256)]
  bif decide (k<0) then noV else bif bif false then true else decide (k>255) then noV else bif bif false then true else decide ((s.size:Int)>64) then noV else
   bif decide (((h.size+s.size:Nat):Int)>9223372036854775807) then none else bif pre (b,()) then
    bif decide ((((⟨#[165]⟩:ByteArray).size+b.size:Nat):Int)>9223372036854775807) then none else
     bif decide ((((⟨#[165]⟩++b:ByteArray).size+e.size:Nat):Int)>9223372036854775807) then none else some (.val (.tuple #[.string (⟨#[165]⟩++b++e),.bool true]),[])
   else none:=by kernel_rfl
def noF:Option (AV×List Con):=some (.val (.tuple #[.agg #[.int .i64 0,.string ⟨#[]⟩],.bool false]),[])
def orW(a b:Int):Int:=IntKind.u16.wrap ↑(BitVec.ofInt IntKind.u16.bits a ||| BitVec.ofInt IntKind.u16.bits b).toNat
def J0n(s:ByteArray)(n:Int):Int:=(s.data.toList.getD n.toNat 0).toNat
theorem L4u(pre:ByteArray×Unit→Bool)(g:ByteArray×Unit→N16)(s:ByteArray):fnSum Tryz.prog {gam:=[(231,S0w pre g)]} [] 20 208 [.val (.string s)] [] =
  let L:Int:=s.size
  let m:=IntKind.i64.wrap (L-2)
  bif decide (L<5) then noF else bif decide (0≤(0:Int)∧0<L) then bif bif false then true else J0n s 0 != 165 then noF else
   bif decide (0≤(2:Int)∧2<L) then bif bif false then true else IntKind.i64.wrap (J0n s 2) != IntKind.i64.wrap (L-5) then noF else
    bif bif false then true else decide (IntKind.i64.wrap (L-5)>64) then noF else
     bif decide (0≤(1:Int)∧1≤m∧m≤L) then bif pre (s.extract (Int.toNat 1) m.toNat,()) then bif decide (0≤m∧m<L) then
      bif decide (0≤IntKind.i64.wrap (m+1)∧IntKind.i64.wrap (m+1)<L) then
       bif ((g (s.extract (Int.toNat 1) m.toNat,())).n:Int) != orW (IntKind.u16.wrap (IntKind.u16.wrap (J0n s m)*2^min (Int.toNat 8) IntKind.u16.bits)) (IntKind.u16.wrap (J0n s (IntKind.i64.wrap (m+1)))) then noF else
        bif decide (0≤(1:Int)∧1<L) then bif decide (0≤(3:Int)∧3≤m∧m≤L) then
         some (.val (.tuple #[.agg #[.int .i64 (IntKind.i64.wrap (J0n s 1)),.string (s.extract (Int.toNat 3) m.toNat)],.bool true]),[]) else none else none
      else none else none else none else none
   else none else none:=by kernel_rfl
def D1n(t:Tl):List Int:=[IntKind.u8.wrap (t.tk.fdiv (2^40)),IntKind.u8.wrap (t.tk.fdiv (2^32)),IntKind.u8.wrap (t.tk.fdiv (2^24)),IntKind.u8.wrap (t.tk.fdiv (2^16)),IntKind.u8.wrap (t.tk.fdiv (2^8)),IntKind.u8.wrap (t.tk.fdiv (2^0)),
 IntKind.u8.wrap t.mode,IntKind.u8.wrap t.faults,IntKind.u8.wrap t.ack,IntKind.u8.wrap t.err,IntKind.u8.wrap (t.rej.fdiv (2^8)),IntKind.u8.wrap t.rej,
 IntKind.u8.wrap (t.q.w.fdiv (2^8)),IntKind.u8.wrap t.q.w,IntKind.u8.wrap (t.q.x.fdiv (2^8)),IntKind.u8.wrap t.q.x,IntKind.u8.wrap (t.q.y.fdiv (2^8)),IntKind.u8.wrap t.q.y,IntKind.u8.wrap (t.q.z.fdiv (2^8)),IntKind.u8.wrap t.q.z,
 IntKind.u8.wrap (t.d.x.fdiv (2^8)),IntKind.u8.wrap t.d.x,IntKind.u8.wrap (t.d.y.fdiv (2^8)),IntKind.u8.wrap t.d.y,IntKind.u8.wrap (t.d.z.fdiv (2^8)),IntKind.u8.wrap t.d.z]
def D0g(t:Tl):ByteArray:=(D1n t).foldl R0j ByteArray.empty
theorem B3b(rg:Tl×Unit→Bool)(t:Tl):fnSum Tryz.prog {gam:=[(230,S0 rg)]} [] 20 177 [.val (Cod.enc t)] [] =
  bif !rg (t,()) then some (.val (Cod.enc (Two.mk (Fr.mk 0 ⟨#[]⟩) false)),[]) else some (.val (Cod.enc (Two.mk (Fr.mk 32 (D0g t)) true)),[]):=by kernel_rfl
def R0x(p:Tl×Unit):Two Fr Bool:=bif !E0m p.1 then ⟨⟨0,⟨#[]⟩⟩,false⟩ else ⟨⟨32,D0g p.1⟩,true⟩
theorem N3v:A0h Tryz.prog 177 (S0 R0x):=H0n (E:={gam:=[(230,S0 fun (p:Tl×Unit)=>E0m p.1)]}) (.cons P1q .nil) 20 fun a=>by
 refine (B3b (fun p=>E0m p.1) a.1).trans ?_
 unfold R0x
 cases E0m a.1<;>rfl
def ds26(b0 b1 b2 b3 b4 b5 b6 b7 b8 b9 b10 b11 b12 b13 b14 b15 b16 b17 b18 b19 b20 b21 b22 b23 b24 b25:UInt8):ByteArray:=⟨#[b0,b1,b2,b3,b4,b5,b6,b7,b8,b9,b10,b11,b12,b13,b14,b15,b16,b17,b18,b19,b20,b21,b22,b23,b24,b25]⟩
def byT(s:ByteArray)(i:Nat):Int:=((s.data.toList.getD i 0).toNat:Int)
def wI(x:Int):Int:=IntKind.i64.wrap x
def tkD(s:ByteArray)(z:Int)(i:Nat):Int:=wI (wI (z*256)+wI (byT s i))
def cntN(s:ByteArray)(i:Int):Int:=wI (wI (wI (byT s i.toNat)*256)+wI (byT s (wI (i+1)).toNat))
def cntT(p:ByteArray×Int×Unit):Int:=bif decide (cntN p.1 p.2.1≥32768) then wI (cntN p.1 p.2.1-65536) else cntN p.1 p.2.1
def X1d(p:ByteArray×Int×Unit):Bool:=decide (0≤p.2.1∧p.2.1<(p.1.size:Int))&&decide (0≤wI (p.2.1+1)∧wI (p.2.1+1)<(p.1.size:Int))
theorem U2n(s:ByteArray)(i:Int):fnSum Tryz.prog {gam:=[]} [] 20 111 [.val (.string s),.val (.int .i64 i)] []=bif decide (0≤i∧i<(s.size:Int)) then bif decide (0≤wI (i+1)∧wI (i+1)<(s.size:Int)) then
  bif decide (cntN s i≥32768) then some (.val (.int .i64 (wI (cntN s i-65536))),[]) else some (.val (.int .i64 (cntN s i)),[]) else none else none:=by kernel_rfl
theorem N3c:A0h Tryz.prog 111 (S0c X1d cntT):=C2u (E:={gam:=[]}) GamOk.nil 20 fun a h=>by
 obtain ⟨s,i,_⟩:=a
 refine (U2n s i).trans ?_
 unfold X1d at h
 simp only[Bool.and_eq_true]at h
 rw[h.1,h.2,cond_true,cond_true]
 unfold cntT
 dsimp only
 cases decide (cntN s i≥32768)<;>rfl
def decT(ct:ByteArray×Int×Unit→Int)(s:ByteArray):Tl:=⟨tkD s (tkD s (tkD s (tkD s (tkD s (tkD s 0 0) 1) 2) 3) 4) 5,wI (byT s 6),wI (byT s 7),wI (byT s 8),wI (byT s 9),wI (wI (wI (byT s 10)*256)+wI (byT s 11)),
 ⟨ct (s,12,()),ct (s,14,()),ct (s,16,()),ct (s,18,())⟩,⟨ct (s,20,()),ct (s,22,()),ct (s,24,())⟩⟩
def tl0:Tl:=⟨0,0,0,0,0,0,⟨0,0,0,0⟩,⟨0,0,0⟩⟩
theorem N4e(rg:Tl×Unit→Bool)(ct:ByteArray×Int×Unit→Int)(b0 b1 b2 b3 b4 b5 b6 b7 b8 b9 b10 b11 b12 b13 b14 b15 b16 b17 b18 b19 b20 b21 b22 b23 b24 b25:UInt8) :
  fnSum Tryz.prog {gam:=[(112,S0 rg),(111,S0c X1d ct)]} [] 20 30 [.val (Cod.enc (Fr.mk 32 (ds26 b0 b1 b2 b3 b4 b5 b6 b7 b8 b9 b10 b11 b12 b13 b14 b15 b16 b17 b18 b19 b20 b21 b22 b23 b24 b25)))] [] =
  bif !rg (decT ct (ds26 b0 b1 b2 b3 b4 b5 b6 b7 b8 b9 b10 b11 b12 b13 b14 b15 b16 b17 b18 b19 b20 b21 b22 b23 b24 b25),()) then some (.val (Cod.enc (Two.mk tl0 false)),[]) else some (.val (Cod.enc (Two.mk (decT ct (ds26 b0 b1 b2 b3 b4 b5 b6 b7 b8 b9 b10 b11 b12 b13 b14 b15 b16 b17 b18 b19 b20 b21 b22 b23 b24 b25)) true)),[]):=by kernel_rfl
theorem D5v(n l m:Int):fnSum Tryz.prog {gam:=[]} [] 20 193 [.val (.int .i64 n),.val (.int .i64 l),.val (.int .i64 m)] []=bif decide (n≥l) then some (.val (.bool (decide (n≤m))),[]) else some (.val (.bool false),[]):=by kernel_rfl
def inV(p:Int×Int×Int×Unit):Bool:=decide (p.1≥p.2.1)&&decide (p.1≤p.2.2.1)
theorem J5t:A0h Tryz.prog 193 (S0 inV):=H0n (E:={gam:=[]}) GamOk.nil 20 fun a=>by
 refine (D5v a.1 a.2.1 a.2.2.1).trans ?_
 unfold inV
 cases decide (a.1≥a.2.1)<;>rfl
def noT:Option (AV×List Con):=some (.val (.bool false),[])
theorem Y2v(rt:Int×Unit→Bool)(inn:Int×Int×Int×Unit→Bool)(t:Tl):fnSum Tryz.prog {gam:=[(94,S0 rt),(193,S0 inn)]} [] 20 112 [.val (Cod.enc t)] [] =
  bif rt (t.tk,()) then bif inn (t.mode,0,3,()) then bif inn (t.faults,0,15,()) then bif inn (t.ack,0,255,()) then bif inn (t.err,0,255,()) then bif inn (t.rej,0,65535,()) then
  bif inn (t.q.w,-32768,32767,()) then bif inn (t.q.x,-32768,32767,()) then bif inn (t.q.y,-32768,32767,()) then bif inn (t.q.z,-32768,32767,()) then
  bif inn (t.d.x,-32768,32767,()) then bif inn (t.d.y,-32768,32767,()) then some (.val (.bool (inn (t.d.z,-32768,32767,()))),[]) else noT else noT else noT else noT else noT else noT else noT else noT else noT else noT else noT else noT:=by kernel_rfl
def C3x(rt:Int×Unit→Bool)(inn:Int×Int×Int×Unit→Bool)(t:Tl):Bool:=rt (t.tk,())&&(inn (t.mode,0,3,())&&(inn (t.faults,0,15,())&&(inn (t.ack,0,255,())&&(inn (t.err,0,255,())&&(inn (t.rej,0,65535,()) &&
 (inn (t.q.w,-32768,32767,())&&(inn (t.q.x,-32768,32767,())&&(inn (t.q.y,-32768,32767,())&&(inn (t.q.z,-32768,32767,())&&(inn (t.d.x,-32768,32767,())&&(inn (t.d.y,-32768,32767,())&&inn (t.d.z,-32768,32767,()))))))))))))
theorem L3v(b c:Bool):(bif b then some (AV.val (Value.bool c),([]:List Con)) else noT)=some (.val (.bool (b&&c)),[]):=by cases b<;>rfl
def C1g(t:Tl):Bool:=C3x (fun p=>A0z p.1) inV t
theorem K5b:A0h Tryz.prog 112 (S0 fun (p:Tl×Unit)=>C1g p.1):=H0n (E:={gam:=[(94,S0 fun (p:Int×Unit)=>A0z p.1),(193,S0 inV)]}) (.cons ok41 (.cons J5t .nil)) 20 fun a=>by
 refine (Y2v (fun p=>A0z p.1) inV a.1).trans ?_
 simp only[L3v]
 rfl
def R0t(s:ByteArray):Two Tl Bool:=bif !C1g (decT cntT s) then ⟨tl0,false⟩ else ⟨decT cntT s,true⟩
theorem ba26(s:ByteArray)(h:s.size=26):∃b0 b1 b2 b3 b4 b5 b6 b7 b8 b9 b10 b11 b12 b13 b14 b15 b16 b17 b18 b19 b20 b21 b22 b23 b24 b25,s=ds26 b0 b1 b2 b3 b4 b5 b6 b7 b8 b9 b10 b11 b12 b13 b14 b15 b16 b17 b18 b19 b20 b21 b22 b23 b24 b25:=by
 obtain ⟨⟨l⟩⟩:=s
 match l,h with
 | [b0,b1,b2,b3,b4,b5,b6,b7,b8,b9,b10,b11,b12,b13,b14,b15,b16,b17,b18,b19,b20,b21,b22,b23,b24,b25],_=>exact ⟨b0,b1,b2,b3,b4,b5,b6,b7,b8,b9,b10,b11,b12,b13,b14,b15,b16,b17,b18,b19,b20,b21,b22,b23,b24,b25,rfl⟩
def N0j(p:Fr×Unit):Bool:=p.1.kind==32&&decide (p.1.data.size=26)
theorem N2c:A0h Tryz.prog 30 (S0c N0j fun (p:Fr×Unit)=>R0t p.1.data):=C2u (E:={gam:=[(112,S0 fun (p:Tl×Unit)=>C1g p.1),(111,S0c X1d cntT)]}) (.cons K5b (.cons N3c .nil)) 20 fun a h=>by
 obtain ⟨⟨k,d⟩,_⟩:=a
 unfold N0j at h
 simp only[Bool.and_eq_true]at h
 obtain ⟨h1,h2⟩:=h
 have h1:k=32:=by simpa using h1
 have g2:d.size=26:=of_decide_eq_true h2
 subst h1
 obtain ⟨b0,b1,b2,b3,b4,b5,b6,b7,b8,b9,b10,b11,b12,b13,b14,b15,b16,b17,b18,b19,b20,b21,b22,b23,b24,b25,rfl⟩:=ba26 d g2
 refine (N4e (fun p=>C1g p.1) cntT b0 b1 b2 b3 b4 b5 b6 b7 b8 b9 b10 b11 b12 b13 b14 b15 b16 b17 b18 b19 b20 b21 b22 b23 b24 b25).trans ?_
 unfold R0t
 dsimp only
 cases C1g (decT cntT (ds26 b0 b1 b2 b3 b4 b5 b6 b7 b8 b9 b10 b11 b12 b13 b14 b15 b16 b17 b18 b19 b20 b21 b22 b23 b24 b25))<;>rfl
theorem Q1j:∀(l:List Int) (r:ByteArray),(l.foldl R0j r).data.toList=r.data.toList++l.map fun n=>UInt8.ofNat n.toNat
 | [],r=>by simp
 | n :: l,r=>by
  rw[List.foldl_cons,Q1j l (R0j r n),List.map_cons]
  have e:(R0j r n).data.toList=r.data.toList++[UInt8.ofNat n.toNat]:=by
   show (r.data.push (UInt8.ofNat n.toNat)).toList=_
   simp
  rw[e,List.append_assoc]
  rfl
theorem W3d(t:Tl)(i:Nat)(x:Int)(hx:(D1n t)[i]?=some x):byT (D0g t) i=(UInt8.ofNat x.toNat).toNat:=by
 have e:(D0g t).data.toList=(D1n t).map fun n=>UInt8.ofNat n.toNat:=by
  unfold D0g
  rw[Q1j]
  rfl
 unfold byT
 rw[e,List.getD_eq_getElem?_getD,List.getElem?_map,hx]
 rfl
theorem T2u(x:Int):IntKind.u8.wrap x=x % 256:=by simp[IntKind.wrap,IntKind.bits,IntKind.signed]
theorem R3y(x:Int):((UInt8.ofNat (IntKind.u8.wrap x).toNat).toNat:Int)=x % 256:=by
 rw[T2u,UInt8.toNat_ofNat']
 omega
theorem fd(x:Int)(n:Int)(h:0<n):x.fdiv n=x / n:=Int.fdiv_eq_ediv_of_nonneg _ (by omega)
theorem R2u{x:Int}(h0:0≤x)(h1:x<281474976710656){a b c d e f:Int}(ha:a=x / 1099511627776 % 256)(hb:b=x / 4294967296 % 256)(hc:c=x / 16777216 % 256)(hd:d=x / 65536 % 256)(he:e=x / 256 % 256)(hf:f=x % 256) :
  ((((a*256+b)*256+c)*256+d)*256+e)*256+f=x:=by omega
theorem K0c{x:Int}(h0:-9223372036854775808≤x)(h1:x<9223372036854775808):wI x=x:=by unfold wI;rw[C0k];omega
theorem K0m(s:ByteArray)(i:Nat):0≤byT s i∧byT s i<256:=by
 unfold byT
 have :=(s.data.toList.getD i 0).toNat_lt
 omega
theorem H1k(s:ByteArray)(z:Int)(i:Nat)(h0:0≤z)(h1:z<1099511627776):tkD s z i=z*256+byT s i:=by
 have :=K0m s i
 have e1:=K0c (x:=z*256) (by omega) (by omega)
 have e2:=K0c (x:=byT s i) (by omega) (by omega)
 unfold tkD
 rw[e1,e2,K0c (by omega) (by omega)]
theorem U2j{q:Int}(h:-32768≤q∧q≤32767)(s:ByteArray)(i:Nat)(hi:i<100)(h1:byT s i=q / 256 % 256)(h2:byT s (i+1)=q % 256):cntT (s,(i:Int),())=q:=by
 have e1:(wI ((i:Int)+1)).toNat=i+1:=by rw[K0c (by omega) (by omega)];omega
 have hn:cntN s i=q / 256 % 256*256+q % 256:=by
  have e2:=K0c (x:=q / 256 % 256) (by omega) (by omega)
  have e3:=K0c (x:=q / 256 % 256*256) (by omega) (by omega)
  have e4:=K0c (x:=q % 256) (by omega) (by omega)
  unfold cntN
  rw[Int.toNat_natCast,e1,h1,h2,e2,e3,e4,K0c (by omega) (by omega)]
 unfold cntT
 dsimp only
 rw[hn]
 by_cases hq:q<0
 ·rw[decide_eq_true (by omega),cond_true,K0c (by omega) (by omega)]
  omega
 ·rw[decide_eq_false (by omega),cond_false]
  omega
theorem G0v{x:Int}(h:N0b x=true):-32768≤x∧x≤32767:=by
 unfold N0b at h
 have h:x=IntKind.i64.wrap (IntKind.i16.wrap x):=by simpa using h
 have e:IntKind.i16.wrap x=(x+32768) % 65536-32768:=by
  have:IntKind.i16.wrap x=if x % 65536≥32768 then x % 65536-65536 else x % 65536:=by
   simp[IntKind.wrap,IntKind.bits,IntKind.signed]
  rw[this]
  split<;>omega
 rw[e,C0k]at h
 omega
theorem R4c{x:Int}(h:(x==IntKind.i64.wrap (IntKind.u8.wrap x))=true):0≤x∧x≤255:=by
 have h:x=IntKind.i64.wrap (IntKind.u8.wrap x):=by simpa using h
 rw[T2u,C0k]at h
 omega
theorem R4b{x:Int}(h:(x==IntKind.i64.wrap (IntKind.u16.wrap x))=true):0≤x∧x≤65535:=by
 have h:x=IntKind.i64.wrap (IntKind.u16.wrap x):=by simpa using h
 have e:IntKind.u16.wrap x=x % 65536:=by simp[IntKind.wrap,IntKind.bits,IntKind.signed]
 rw[e,C0k]at h
 omega
structure TlIn(t:Tl):Prop where
 tk:A0z t.tk=true
 mode:0≤t.mode∧t.mode≤3
 faults:0≤t.faults∧t.faults≤15
 ack:0≤t.ack∧t.ack≤255
 err:0≤t.err∧t.err≤255
 rej:0≤t.rej∧t.rej≤65535
 q0:-32768≤t.q.w∧t.q.w≤32767
 q1:-32768≤t.q.x∧t.q.x≤32767
 q2:-32768≤t.q.y∧t.q.y≤32767
 q3:-32768≤t.q.z∧t.q.z≤32767
 d0:-32768≤t.d.x∧t.d.x≤32767
 d1:-32768≤t.d.y∧t.d.y≤32767
 d2:-32768≤t.d.z∧t.d.z≤32767
theorem C2a{t:Tl}(h:E0m t=true):TlIn t:=by
 unfold E0m tlOk at h
 simp only[Bool.and_eq_true]at h
 obtain ⟨h1,h2,h3,h4,h5,h6,h7,h8,h9,h10,h11,h12,h13,h14,h15⟩:=h
 exact ⟨h10,⟨of_decide_eq_true h11,of_decide_eq_true h12⟩,⟨of_decide_eq_true h13,of_decide_eq_true h14⟩,R4c h8,R4c h9,R4b h15,G0v h1,G0v h2,G0v h3,G0v h4,G0v h5,G0v h6,G0v h7⟩
structure Dr where
 on:Bool
 tick:Int
 last:V3
 rate:V3
instance:Cod Dr where
 enc d:=.agg #[.bool d.on,.int .i64 d.tick,.int .i64 d.last.x,.int .i64 d.last.y,.int .i64 d.last.z,.int .i64 d.rate.x,.int .i64 d.rate.y,.int .i64 d.rate.z]
 dec v:=match v with | .agg ⟨[.bool on,.int .i64 t,.int .i64 a,.int .i64 b,.int .i64 c,.int .i64 x,.int .i64 y,.int .i64 z]⟩=>some ⟨on,t,⟨a,b,c⟩,⟨x,y,z⟩⟩ | _=>none
 law v a h:=by split at h<;>simp_all;subst h;simp
def clip(x:Int):Int:=if (219902325555:Int)<(if (-219902325555:Int)>x then -219902325555 else x) then 219902325555 else (if (-219902325555:Int)>x then -219902325555 else x)
def dip0(o:Ops)(r:V3)(b:Bool):V3×Bool:=P0e b (fun b=>o.mul b r.x (-274877906944)) (fun b=>o.mul b r.y (-274877906944)) (fun b=>o.mul b r.z (-274877906944))
def dip1(o:Ops)(r:V3)(b:Bool):V3:=⟨clip (dip0 o r b).1.x,clip (dip0 o r b).1.y,clip (dip0 o r b).1.z⟩
def E1m(o:Ops)(b:Bool)(p:Dr×Unit):V3×Bool:=bif !p.1.on then (V3.zero,b) else (bif (dip0 o p.1.rate b).2 then V3.zero else dip1 o p.1.rate b,(dip0 o p.1.rate b).2)
theorem U2w(o:Ops)(b:Bool)(d:Dr):fnSum Tryz.prog {gam:=gamN o} [] 20 175 [.ptr 0 0,.val (Cod.enc d)] (row 57 b) =
  bif !d.on then some (.val (Cod.enc V3.zero),row 57 b) else bif (dip0 o d.rate b).2 then some (.val (Cod.enc V3.zero),row 57 (dip0 o d.rate b).2) else some (.val (Cod.enc (dip1 o d.rate b)),row 57 (dip0 o d.rate b).2):=by kernel_rfl
theorem ok60:A0h Tryz.prog 175 (S 57 (E1m opsF)):=S_ok A0u 20 fun b a=>by
 refine (U2w opsF b a.1).trans ?_
 unfold E1m
 cases !a.1.on<;>cases (dip0 opsF a.1.rate b).2<;>rfl
structure R6 where
 a:Int
 b:Int
 c:Int
 d:Int
 e:Int
 f:Int
instance:Cod R6 where
 enc r:=.agg #[.int .i64 r.a,.int .i64 r.b,.int .i64 r.c,.int .i64 r.d,.int .i64 r.e,.int .i64 r.f]
 dec v:=match v with | .agg ⟨[.int .i64 a,.int .i64 b,.int .i64 c,.int .i64 d,.int .i64 e,.int .i64 f]⟩=>some ⟨a,b,c,d,e,f⟩ | _=>none
 law v a h:=by split at h<;>simp_all;subst h;simp
structure M6 where
 a:R6
 b:R6
 c:R6
 d:R6
 e:R6
 f:R6
def R6.cells(r:R6):List Value:=[.int .i64 r.a,.int .i64 r.b,.int .i64 r.c,.int .i64 r.d,.int .i64 r.e,.int .i64 r.f]
def six:List Value→Option (R6×List Value)
 | .int .i64 a :: .int .i64 b :: .int .i64 c :: .int .i64 d :: .int .i64 e :: .int .i64 f :: r=>some (⟨a,b,c,d,e,f⟩,r)
 | _=>none
theorem T0z{l:List Value}{x:R6}{r:List Value}(h:six l=some (x,r)):l=x.cells++r:=by
 unfold six at h
 split at h
 ·cases h;rfl
 ·cases h
instance:Cod M6 where
 enc m:=.agg ⟨m.a.cells++(m.b.cells++(m.c.cells++(m.d.cells++(m.e.cells++(m.f.cells++[])))))⟩
 dec v:=match v with
  | .agg ⟨l⟩=>match six l with
   | some (a,l)=>match six l with
    | some (b,l)=>match six l with
     | some (c,l)=>match six l with
      | some (d,l)=>match six l with
       | some (e,l)=>match six l with
        | some (f,[])=>some ⟨a,b,c,d,e,f⟩
        | _=>none
       | none=>none
      | none=>none
     | none=>none
    | none=>none
   | none=>none
  | _=>none
 law v m h:=by
  split at h
  ·rename_i l
   split at h
   ·rename_i a l1 h1
    split at h
    ·rename_i b l2 h2
     split at h
     ·rename_i c l3 h3
      split at h
      ·rename_i d l4 h4
       split at h
       ·rename_i e l5 h5
        split at h
        ·rename_i f h6
         cases h
         rw[T0z h1,T0z h2,T0z h3,T0z h4,T0z h5,T0z h6]
        ·cases h
       ·cases h
      ·cases h
     ·cases h
    ·cases h
   ·cases h
  ·cases h
def R6.at(r:R6):Nat→Int
 | 0=>r.a
 | 1=>r.b
 | 2=>r.c
 | 3=>r.d
 | 4=>r.e
 | 5=>r.f
 | _=>0
abbrev Mx:=Nat→Nat→Int
def M6.row(m:M6):Nat→R6
 | 0=>m.a
 | 1=>m.b
 | 2=>m.c
 | 3=>m.d
 | 4=>m.e
 | _=>m.f
def M6.at(m:M6):Mx:=fun i j=>(m.row i).at j
def R6.of(v:Nat→Int):R6:=⟨v 0,v 1,v 2,v 3,v 4,v 5⟩
def M6.of(L:Mx):M6:=⟨R6.of (L 0),R6.of (L 1),R6.of (L 2),R6.of (L 3),R6.of (L 4),R6.of (L 5)⟩
def mx0:Mx:=fun _ _=>0
def M6.zero:M6:=M6.of mx0
def R6.zero:R6:=R6.of fun _=>0
def setM(L:Mx)(i j:Nat)(v:Int):Mx:=fun a b=>bif Nat.beq a i&&Nat.beq b j then v else L a b
def setR(L:Nat→Int)(i:Nat)(v:Int):Nat→Int:=fun a=>bif Nat.beq a i then v else L a
def W2h(o:Ops)(a b:Nat→Int)(s:Int×Bool):Nat→Int×Bool
 | 0=>s
 | k+1 =>
  let r:=W2h o a b s k
  let m:=o.mul r.2 (a k) (b k)
  o.sub m.2 r.1 m.1
def Y1u(o:Ops)(m:Mx)(i:Nat)(st:Mx×Bool):Nat→Mx×Bool
 | 0=>st
 | j+1 =>
  let r:=Y1u o m i st j
  let s:=W2h o (r.1 i) (r.1 j) (o.add r.2 (m i j) 0) j
  let d:=o.div s.2 s.1 (r.1 j j)
  (setM r.1 i j d.1,d.2)
def Q3n(o:Ops)(m:Mx)(i:Nat)(st:Mx×Bool):Mx×Bool :=
 let r:=Y1u o m i st i
 let s:=W2h o (r.1 i) (r.1 i) (o.add r.2 (m i i) 0) i
 let q:=o.sqrt (bif decide (s.1<1) then true else s.2) s.1
 (setM r.1 i i q.1,q.2)
def D0h(o:Ops)(m:Mx)(b:Bool):Nat→Mx×Bool
 | 0=>(mx0,b)
 | i+1=>Q3n o m i (D0h o m b i)
def okN(n:Int):Bool:=decide (1≤n)&&decide (n≤6)
def envM(o:Ops):Env:={gam:=gamN o,ways:=[(61,[131]),(78,[113])]}
end Go.Ab
