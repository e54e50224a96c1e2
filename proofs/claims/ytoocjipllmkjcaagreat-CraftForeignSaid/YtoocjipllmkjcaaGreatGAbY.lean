/- A part of the proofs: lemmas, no statement of their own; no condition. -/
import Derived.Test.YtoocjipllmkjcaaGreatGFrK
import Derived.Test.YtoocjipllmkjcaaGreatGMoC
import Derived.Test.YtoocjipllmkjcaaGreatGDrB
import Derived.Test.YtoocjipllmkjcaaGreatGOrA
import Derived.Test.YtoocjipllmkjcaaGreatGFuB
namespace Go.Ab
open Go
section
variable {P : Program} {N : Nat}
structure BytesLoop (P : Program) (N : Nat) (τ : Type) (n : Nat) where
  id : Nat
  id2 : Nat
  idR : Nat
  T1 : Code
  T2 : Code
  rO : Array Oper
  BD : Code
  INC : Code
  ty : TypeId
  te : TypeId
  tS : Nat
  tI : Nat
  d1 : Nat
  d2 : Nat
  d3 : Nat
  I : Int→τ→Option Addr→Nat→St
  I1 : Int→τ→Option Addr→Nat→Bool→St
  J : Int→τ→Option Addr→Nat→Int→St
  K : Int→τ→Option Addr→Nat→St
  E : τ→St
  F : τ→Int→τ
structure BytesLoop.Ok {τ : Type} {n : Nat} (L : BytesLoop P N τ n) : Prop where
  r0 : sigOf L.rO 0 = some (.indexAddr L.ty (.tmp L.tS) (.tmp L.tI),some L.d1,true)
  r1 : sigOf L.rO 1 = some (.load L.te (.tmp L.d1),some L.d2,true)
  r2 : sigOf L.rO 2 = some (.assign (.tmp L.d2),some L.d3,true)
  rn : List.range L.rO.size = [0,1,2]
  u : P.underlying L.ty = some (.slice L.te)
  ue : P.underlying L.te = some (.int .u8)
  s1 : (P.info? L.te).map (·.size) = some 1
  b1 : L.d1 < N
  b2 : L.d2 < N
  b3 : L.d3 < N
  n1 : L.d1 ≠ L.d2
  len : ∀ i z a c,(L.I i z a c).tmps.length = N
  hS : ∀ i z a c,(L.I i z a c).tmps[L.tS]? = some (.val (.slice a n c))
  hI : ∀ i z a c,(L.I i z a c).tmps[L.tI]? = some (.val (.int .i64 i))
  hJ : ∀ i z a c p v,Wk (L.J i z a c v).u ({ L.I i z a c with tmps:=(((L.I i z a c).tmps.set L.d1 (.val p)).set L.d2 (.val (.int .u8 v))).set L.d3 (.val (.int .u8 v)) } : St).u ∧ (L.I i z a c).lo ≤ (L.J i z a c v).lo ∧ (L.J i z a c v).hi ≤ (L.I i z a c).hi
  hT : ∀ i z a c,RunsTo P N L.T1 (L.I i z a c) .normal (L.I1 i z a c (decide (i < n)))
  hY : ∀ i z a c,RunsTo P N L.T2 (L.I1 i z a c true) .normal (L.I i z a c)
  hX : ∀ i z a c,RunsTo P N L.T2 (L.I1 i z a c false) (.exit L.id) (L.E z)
  hB : ∀ i z a c v,RunsTo P N L.BD (L.J i z a c v) .normal (L.K i (L.F z v) a c)
  hC : ∀ (i : Nat) z a c,i < n→RunsTo P N L.INC (L.K i z a c) .normal (L.I (i + 1 : Nat) z a c)
def BytesLoop.code {τ : Type} {n : Nat} (L : BytesLoop P N τ n) : Code:=.seq L.T1 (.seq L.T2 (.seq (.block L.id2 (.seq (.region L.idR L.rO false) L.BD)) L.INC))
theorem BytesLoop.rounds {τ : Type} {n : Nat} {L : BytesLoop P N τ n} (h : L.Ok) {w1 : World} {own1 : Nat→Prop} {σ1 : Nat→Option Nat} {lo1 hi1 : Nat} {l : List UInt8} (hl : l.length = n) {r c : Nat} (hr : r < w1.heap.size) (ho : ¬ own1 r)
    (hc : ∀ j,j < n→w1.cell? ⟨r,j,none⟩ = some (.int .u8 (l.getD j 0).toNat)) {Q : Exit→Act→World→Prop} (z0 : τ)
    (hE : ∀ a w,StFits N w1 own1 σ1 lo1 hi1 (L.E (l.foldl (fun z b=>L.F z b.toNat) z0)) a w→Q (.exit L.id) a w) :
    ∀ (m i : Nat) (act : Act) (w : World),i + m = n→StFits N w1 own1 σ1 lo1 hi1 (L.I i ((l.take i).foldl (fun z b=>L.F z b.toNat) z0) (some ⟨r,0,none⟩) c) act w→Code.rounds P L.code Q (m + 1) act w:=by
  intro m
  induction m with
  | zero =>
    intro i act w hi hst
    have hi' : i = n:=by omega
    subst hi'
    rw [rounds_succ]
    unfold BytesLoop.code
    refine wp_seq (h.hT _ _ _ _ w1 own1 σ1 lo1 hi1 act w hst _ fun a0 w0' h0=>?_)
    rw [decide_eq_false (by omega)] at h0
    refine wp_seq (h.hX _ _ _ _ w1 own1 σ1 lo1 hi1 a0 w0' h0 _ fun a1 w1' h1=>?_)
    rw [List.take_of_length_le (by omega)] at h1
    exact hE a1 w1' h1
  | succ m ih =>
    intro i act w hi hst
    rw [rounds_succ]
    unfold BytesLoop.code
    generalize hz : (l.take i).foldl (fun z b=>L.F z b.toNat) z0 = z at hst
    refine wp_seq (h.hT i z _ c w1 own1 σ1 lo1 hi1 act w hst _ fun a0 w0' h0=>?_)
    rw [decide_eq_true (by omega)] at h0
    refine wp_seq (h.hY i z _ c w1 own1 σ1 lo1 hi1 a0 w0' h0 _ fun a1 w2 h1=>?_)
    refine wp_seq (wp_block (wp_seq (wp_region ?_)))
    rw [h.rn]
    obtain ⟨ti,hti,hs1⟩ : ∃ ti,P.info? L.te = some ti ∧ ti.size = 1:=by
      have:=h.s1
      cases hi : P.info? L.te with
      | none=>rw [hi] at this; cases this
      | some ti=>rw [hi] at this; exact ⟨ti,rfl,by simpa using this⟩
    refine index_fit h.r0 h.b1 (h.len ..) h.u hti h1 (b:=⟨r,0,none⟩) (len:=n) (cap:=c) (i:=i) (ik:=.i64) (h1.eval (h.hS ..)) (h1.eval (h.hI ..)) (by omega) _ fun a2 h2=>?_
    have hcell : w2.cell? ((⟨r,0,none⟩ : Addr).add (i * ti.size)) = some (.int .u8 ((l.getD i 0).toNat : Int)):=by
      rw [hs1,Nat.mul_one,addr_add,Nat.zero_add]
      have h3:=hc i (by omega)
      have h4:=h1.far hr ho
      simp only [World.cell?,h4] at h3 ⊢
      exact h3
    refine load_fit h.r1 h.b2 (by rw [List.length_set]; exact h.len ..) h2 (b:=(⟨r,0,none⟩ : Addr).add (i * ti.size)) ?_ (v:=.int .u8 ((l.getD i 0).toNat : Int)) (run_loadScalar h.ue rfl hcell) _ fun a3 h3=>?_
    · exact h2.eval (by rw [List.getElem?_set_self (by rw [h.len]; exact h.b1)])
    refine op_fit h.r2 h.b3 (by rw [List.length_set,List.length_set]; exact h.len ..) h3 (v:=.int .u8 ((l.getD i 0).toNat : Int)) (fun o hop=>?_) _ fun a4 h4=>?_
    · have e : a3.eval (.tmp L.d2) = .int .u8 ((l.getD i 0).toNat : Int):=h3.eval (by rw [List.getElem?_set_self (by rw [List.length_set,h.len]; exact h.b2)])
      simp only [execOp,hop,e,Sem.run_pure]
    obtain ⟨k1,k2,k3⟩:=h.hJ i z (some ⟨r,0,none⟩) c (.pointer (some ((⟨r,0,none⟩ : Addr).add (i * ti.size)))) ((l.getD i 0).toNat : Int)
    have h5:=h4.weak k1 k2 k3
    change Code.wp P L.BD _ a4 w2
    refine h.hB i z _ c _ w1 own1 σ1 lo1 hi1 a4 w2 h5 _ fun a5 w5 h6=>?_
    simp only [Ex.to,Exit.inBlock]
    refine h.hC i _ _ c (by omega) w1 own1 σ1 lo1 hi1 a5 w5 h6 _ fun a6 w6 h7=>?_
    refine ih (i + 1) a6 w6 (by omega) ?_
    have e : l.take (i + 1) = l.take i ++ [l.getD i 0]:=byte_at (by omega)
    rw [e,List.foldl_append,hz]
    exact h7
theorem BytesLoop.run {τ : Type} {n : Nat} {L : BytesLoop P N τ n} (h : L.Ok) {w1 : World} {own1 : Nat→Prop} {σ1 : Nat→Option Nat} {lo1 hi1 : Nat} {l : List UInt8} (hl : l.length = n) {r c : Nat} (hr : r < w1.heap.size) (ho : ¬ own1 r)
    (hc : ∀ j,j < n→w1.cell? ⟨r,j,none⟩ = some (.int .u8 (l.getD j 0).toNat)) {Q : Exit→Act→World→Prop} (z0 : τ) {act : Act} {w : World} (hst : StFits N w1 own1 σ1 lo1 hi1 (L.I 0 z0 (some ⟨r,0,none⟩) c) act w)
    (hE : ∀ a w,StFits N w1 own1 σ1 lo1 hi1 (L.E (l.foldl (fun z b=>L.F z b.toNat) z0)) a w→Q .normal a w) : (Code.block L.id (.loop L.code)).wp P Q act w:=by
  refine wp_block (wp_loop_rounds (n + 1) (BytesLoop.rounds h hl hr ho hc z0 (fun a w hh=>?_) n 0 act w (by omega) hst))
  simp only [Exit.inBlock,if_true]
  exact hE a w hh
theorem conv_else {ops : Array Oper} {Q : Exit→Act→World→Prop} {w0 : World} {own : Nat→Prop} {σ0 : Nat→Option Nat} {lo0 hi0 : Nat} {s : St} {a : Act} {w : World} {k d x : Nat} {src dst e : TypeId} {u : TypeDesc} (hs : sigOf ops k = some (.convert src dst (.tmp x),some d,true)) (hd : d < N) (hlen : s.tmps.length = N)
    (hh : StFits N w0 own σ0 lo0 hi0 s a w) {str : ByteArray} (hx : s.tmps[x]? = some (.val (.string str))) (us : P.underlying src = some u) (ud : P.underlying dst = some (.slice e)) (ue : P.underlying e = some (.int .u8)) (rest : List Nat)
    (hK : ∀ a' w' (own1 : Nat→Prop) (σ1 : Nat→Option Nat) (r c : Nat),r < w'.heap.size→¬ own1 r→(∀ j,j < str.size→w'.cell? ⟨r,j,none⟩ = some (.int .u8 (str.data.toList.getD j 0).toNat)) →
      (∀ b,s.lo ≤ b→b < s.hi→σ1 b = none)→StFits N w' own1 σ1 s.lo s.hi { s with tmps:=s.tmps.set d (.val (.slice (some ⟨r,0,none⟩) str.size c)) } a' w'→(∀ s' a' w2,StFits N w' own1 σ1 s.lo s.hi s' a' w2→StFits N w0 own σ0 lo0 hi0 s' a' w2)→wpOps P ops Q rest a' w') : wpOps P ops Q (k :: rest) a w:=by
  obtain ⟨e1,e2,e3⟩:=bytesWorld_kept w e str
  refine op_else hs hd hlen hh (v:=.slice (some ⟨w.heap.size,0,none⟩) str.size (grownCap w str.size 0 e)) (w':=Lib.bytesWorld w e str) (fun o hop=>?_) e1 e2 e3 (by rw [Lib.bytesWorld_size]; omega) (fun j hj=>Lib.bytesWorld_at_old w e str j hj) rest fun a' own1 σ1 k1 kn k2 k3=>?_
  · have hxe : a.eval (.tmp x) = .string str:=hh.eval hx
    simp only [execOp,hop,hxe,Sem.run_bind,Lib.run_convert_string_bytes w src dst e str us ud ue,Result.andThen_ok,Sem.run_pure]
  · refine hK a' _ own1 σ1 w.heap.size _ (by rw [Lib.bytesWorld_size]; omega) (fun ho=>by have:=k1 _ ho; omega) (fun j hj=>Lib.bytesWorld_cell w e str j hj) kn k2 k3
end
end Go.Ab
set_option linter.unusedSimpArgs false
namespace Go.Ab
open Go Go.Proofs
structure RdOps where
  wd : Int × Unit→Int
  rt : Int × Unit→Bool
  pt : Bool→Int × Int × Int × Unit→Int × Bool
  vn : Bool→V3 × Unit→Int × Bool
  vu : Bool→V3 × Unit→V3 × Bool
def gamRd (F : RdOps) : Gam:=[(209,S0 F.wd),(87,S0 F.rt),(65,S 57 F.pt),(137,S 57 F.vn),(51,S 57 F.vu)]
noncomputable def rdR : Nat→Code
  | 0=>Tryz.f164.body.getD .skip
  | k + 1=>seqR (rdR k)
noncomputable def rdL (k : Nat) : Code:=seqL (rdR k)
theorem rd_is : Tryz.f164.body = some (.seq (rdL 0) (.seq (rdL 1) (.seq (rdL 2) (.seq (rdL 3) (.seq (rdL 4) (.seq (rdL 5) (.seq (rdL 6) (.seq (rdL 7) (.seq (rdL 8) (.seq (rdL 9) (.seq (rdL 10) (rdR 11))))))))))) ):=by kernel_rfl
theorem rd_N : Tryz.f164.ntmps = 165:=by kernel_rfl
theorem f164_is : Tryz.prog.funcs[164]? = some Tryz.f164:=by kernel_rfl
def rN1 : Nat:=4096 + 1 * 2 ^ 180
def rN2 : Nat:=4096 + 2 * 2 ^ 180
def rN3 : Nat:=4096 + 3 * 2 ^ 180
def rN4 : Nat:=4096 + 4 * 2 ^ 180
def fRow (k : Int) (d : ByteArray) : Con:=.row 74 [.val (.int .i64 k),.val (.string d)]
def gRow (k z x y w : Int) : Con:=.row 100 [.val (.int .i64 k),.val (.int .i64 z),.val (.int .i64 x),.val (.int .i64 y),.val (.int .i64 w)]
def rdTm : List (Nat × AV):=[(1,.ptr 4096 0),(2,.ptr rN1 0),(3,.val (.bool false))]
def rdS (k : Int) (d : ByteArray) (tm : List (Nat × AV)) : St:=gSt 165 (rdTm ++ tm) [(4096,fRow k d),(rN1,gRow 0 0 0 0 0)] rN2
def rdZ (r : Rdg) (b : Bool) (lo : Nat) : St:=gSt 165 [(2,.ptr rN1 0),(3,.val (.bool b))] [(rN1,gRow r.kind r.tk r.v.x r.v.y r.v.z)] lo
def rdS5 (k : Int) (d : ByteArray) (z : Int) (tm : List (Nat × AV)) : St:=gSt 165 (rdTm ++ (5,.ptr rN2 0) :: tm) [(4096,fRow k d),(rN1,gRow 0 0 0 0 0),(rN2,gRow k z 0 0 0)] rN3
structure RdT where
  v : V3
  ok : Bool
  lit : Bool
  fl : Bool
def rdJ (k : Int) (d : ByteArray) (z : Int) (ds : ByteArray) (t : RdT) (tm : List (Nat × AV)) : St:=gSt 165 (rdTm ++ [(5,.ptr rN2 0),(8,.val (.string ds)),(9,.ptr rN3 0),(10,.val (.bool t.ok)),(11,.val (.bool t.lit))] ++ tm) [(4096,fRow k d),(rN1,gRow 0 0 0 0 0),(rN2,gRow k z t.v.x t.v.y t.v.z),(rN3,.row 57 [.val (.bool t.fl)])] rN4
def setV (v : V3) (i : Nat) (x : Int) : V3:=match i with
  | 0=>⟨x,v.y,v.z⟩
  | 1=>⟨v.x,x,v.z⟩
  | _=>⟨v.x,v.y,x⟩
def u16or (a b : Int) : Int:=IntKind.u16.wrap ((BitVec.ofInt IntKind.u16.bits (IntKind.u16.wrap (IntKind.u16.wrap a * 2 ^ 8)) ||| BitVec.ofInt IntKind.u16.bits (IntKind.u16.wrap b)).toNat : Int)
def byA (s : ByteArray) (i : Nat) : Int:=((s.data.toList.getD i 0).toNat : Int)
def wordV (s : ByteArray) : Int:=u16or (byA s 0) (byA s 1)
def wAt (ds : ByteArray) (j : Nat) : Int:=wordV (ds.extract j ds.size)
def gyN (ds : ByteArray) (i : Nat) : Int:=IntKind.i64.wrap (IntKind.i16.wrap (wAt ds (2 * i)))
def suN (ds : ByteArray) (i : Nat) : Int:=IntKind.i64.wrap (IntKind.i64.wrap (IntKind.i64.wrap (wAt ds (4 * i)) - IntKind.i64.wrap (wAt ds (4 * i + 2))) * 2 ^ 24)
def suB (ds : ByteArray) (i : Nat) : Bool:=decide ((if wAt ds (4 * i + 2) > wAt ds (4 * i) then wAt ds (4 * i + 2) else wAt ds (4 * i)) ≥ 2000)
def rdG (ds : ByteArray) (i : Nat) (t : RdT) (b : Bool) : RdT:=⟨setV t.v i (IntKind.i64.wrap (gyN ds i * 2 ^ 25)),b,t.lit,t.fl⟩
def rdM (F : RdOps) (ds : ByteArray) (i : Nat) (t : RdT) : RdT:=⟨setV t.v i (F.pt t.fl (1099511627776,gyN ds i,100,())).1,t.ok,t.lit,(F.pt t.fl (1099511627776,gyN ds i,100,())).2⟩
def rdU (ds : ByteArray) (i : Nat) (t : RdT) (b : Bool) : RdT:=⟨setV t.v i (suN ds i),t.ok,b,t.fl⟩
noncomputable def rdO5 : Array Oper:=regO (seqL (rdL 4))
noncomputable def rdB0 : Code:=inB (inB (seqR (rdL 4)))
noncomputable def rdT1 : Code:=seqL rdB0
noncomputable def rdT2 : Code:=seqL (seqR rdB0)
noncomputable def rdB1 : Code:=inB (seqL (seqR (seqR rdB0)))
noncomputable def rdO7 : Array Oper:=regO (seqL rdB1)
noncomputable def rdC8 : Code:=seqR rdB1
noncomputable def rdC9 : Code:=seqR (seqR (seqR rdB0))
noncomputable def rdLB : Code:=inB (inB (seqR (rdL 9)))
theorem rd4_is : rdL 4 = .seq (.region 5 rdO5 false) (.block 0 (.loop (.seq rdT1 (.seq rdT2 (.seq (.block 1 (.seq (.region 7 rdO7 false) rdC8)) rdC9))))):=by kernel_rfl
theorem rd9_is : rdL 9 = .seq (seqL (rdL 9)) (.block 2 (.loop rdLB)):=by kernel_rfl
noncomputable abbrev rdRun (F : RdOps) (c : Code) (s : St) (ks ts : List Nat) : Option (Ex × St):=gRun Tryz.prog { gam:=gamRd F } 165 c s ks ts
section
variable (F : RdOps) (k z n : Int) (d ds : ByteArray) (a : Option Addr) (c : Nat) (t : RdT)
theorem rd_q0 : rdRun F (rdL 0) (startS 165 [.val (Cod.enc (Fr.mk k d))] []) [4096,rN1] [1,2,3] = some (.normal,rdS k d []):=by kernel_rfl
theorem rd_q1 : rdRun F (rdL 1) (rdS k d []) [4096,rN1] [1,2,3,4] = some (.normal,rdS k d [(4,.val (.int .i64 (F.wd (k,()))))]):=by kernel_rfl
theorem rd_q2 : rdRun F (rdL 2) (rdS k d [(4,.val (.int .i64 n))]) [4096,rN1] [1,2,3] = bif n == 0 then some (.ret,rdS k d []) else bif ((d.size : Nat) : Int) != IntKind.i64.wrap (6 + IntKind.i64.wrap (2 * n)) then some (.ret,rdS k d []) else some (.normal,rdS k d []):=by kernel_rfl
theorem rd_q3 : rdRun F (rdL 3) (rdS k d []) [4096,rN1,rN2] [1,2,3,5] = some (.normal,rdS5 k d 0 []):=by kernel_rfl
theorem rd_q5 : rdRun F (rdL 5) (rdS5 k d z []) [4096,rN1,rN2] [1,2,3,5,8] = bif decide (0 ≤ (6 : Int) ∧ 6 ≤ (d.size : Int) ∧ (d.size : Int) ≤ (d.size : Int)) then some (.normal,rdS5 k d z [(8,.val (.string (d.extract 6 d.size)))]) else none:=by kernel_rfl
theorem rd_q6 : rdRun F (rdL 6) (rdS5 k d z [(8,.val (.string ds))]) [4096,rN1,rN2,rN3] [1,2,3,5,8,9] = some (.normal,gSt 165 (rdTm ++ [(5,.ptr rN2 0),(8,.val (.string ds)),(9,.ptr rN3 0)]) [(4096,fRow k d),(rN1,gRow 0 0 0 0 0),(rN2,gRow k z 0 0 0),(rN3,.row 57 [.val (.bool false)])] rN4):=by kernel_rfl
theorem rd_q7 : rdRun F (rdL 7) (gSt 165 (rdTm ++ [(5,.ptr rN2 0),(8,.val (.string ds)),(9,.ptr rN3 0)]) [(4096,fRow k d),(rN1,gRow 0 0 0 0 0),(rN2,gRow k z 0 0 0),(rN3,.row 57 [.val (.bool false)])] rN4) [4096,rN1,rN2,rN3] [1,2,3,5,8,9,10] = some (.normal,gSt 165 (rdTm ++ [(5,.ptr rN2 0),(8,.val (.string ds)),(9,.ptr rN3 0),(10,.val (.bool (F.rt (z,()))))]) [(4096,fRow k d),(rN1,gRow 0 0 0 0 0),(rN2,gRow k z 0 0 0),(rN3,.row 57 [.val (.bool false)])] rN4):=by kernel_rfl
theorem rd_q8 (b : Bool) : rdRun F (rdL 8) (gSt 165 (rdTm ++ [(5,.ptr rN2 0),(8,.val (.string ds)),(9,.ptr rN3 0),(10,.val (.bool b))]) [(4096,fRow k d),(rN1,gRow 0 0 0 0 0),(rN2,gRow k z 0 0 0),(rN3,.row 57 [.val (.bool false)])] rN4) [4096,rN1,rN2,rN3] [1,2,3,5,8,9,10,11] = some (.normal,rdJ k d z ds ⟨⟨0,0,0⟩,b,false,false⟩ []):=by kernel_rfl
theorem rd_q9 : rdRun F (seqL (rdL 9)) (rdJ k d z ds t []) [4096,rN1,rN2,rN3] [1,2,3,5,8,9,10,11,60] = some (.normal,rdJ k d z ds t [(60,.val (.int .i64 0))]):=by kernel_rfl
theorem rd_qX : rdRun F rdLB (rdJ k d z ds t [(60,.val (.int .i64 3))]) [4096,rN1,rN2,rN3] [1,2,3,5,8,9,10,11] = some (.exit 2,rdJ k d z ds t []):=by kernel_rfl
theorem rd_q10m : rdRun F (rdL 10) (rdJ 3 d z ds t []) [4096,rN1,rN2,rN3] [1,2,3,5,8,9,10,11] = bif t.ok then bif decide ((F.vn t.fl (t.v,())).1 ≥ 1099511627776) then some (.normal,rdJ 3 d z ds ⟨t.v,decide ((F.vn t.fl (t.v,())).1 ≤ 131941395333120),t.lit,(F.vn t.fl (t.v,())).2⟩ []) else some (.normal,rdJ 3 d z ds ⟨t.v,false,t.lit,(F.vn t.fl (t.v,())).2⟩ []) else some (.normal,rdJ 3 d z ds ⟨t.v,false,t.lit,(F.vn t.fl (t.v,())).2⟩ []):=by kernel_rfl
theorem rd_q10s : rdRun F (rdL 10) (rdJ 2 d z ds t []) [4096,rN1,rN2,rN3] [1,2,3,5,8,9,10,11] = bif t.ok then bif t.lit then some (.normal,rdJ 2 d z ds ⟨(F.vu t.fl (t.v,())).1,!(F.vu t.fl (t.v,())).2,t.lit,(F.vu t.fl (t.v,())).2⟩ []) else some (.normal,rdJ 2 d z ds ⟨(F.vu t.fl (t.v,())).1,false,t.lit,(F.vu t.fl (t.v,())).2⟩ []) else some (.normal,rdJ 2 d z ds ⟨(F.vu t.fl (t.v,())).1,false,t.lit,(F.vu t.fl (t.v,())).2⟩ []):=by kernel_rfl
theorem rd_q10g : rdRun F (rdL 10) (rdJ 1 d z ds t []) [4096,rN1,rN2,rN3] [1,2,3,5,8,9,10,11] = some (.normal,rdJ 1 d z ds t []):=by kernel_rfl
theorem rd_q11 : rdRun F (rdR 11) (rdJ k d z ds t []) [rN1] [2,3] = bif !t.ok then some (.ret,rdZ ⟨0,0,⟨0,0,0⟩⟩ false rN4) else some (.ret,rdZ ⟨k,z,t.v⟩ true rN4):=by kernel_rfl
end
end Go.Ab
set_option linter.unusedSimpArgs false
namespace Go.Ab
open Go Go.Proofs
def tkF (z v : Int) : Int:=orV (IntKind.i64.wrap (z * 2 ^ 8)) (IntKind.i64.wrap v)
def rdK (k : Int) (d : ByteArray) (i z : Int) (a : Option Addr) (c : Nat) (tm : List (Nat × AV)) : St:=rdS5 k d z ([(38,.val (.slice a 6 c)),(39,.val (.int .i64 6)),(40,.val (.int .i64 i))] ++ tm)
section
variable (F : RdOps) (k z n i v : Int) (d ds : ByteArray) (a : Option Addr) (ad : Addr) (c : Nat) (t : RdT) (b : Bool) (p : Value)
theorem rd5_3 : sigOf rdO5 3 = some (.convert 9 227 (.tmp 37),some 38,true):=by kernel_rfl
theorem rd5_n : List.range rdO5.size = (List.range (rdO5.toList.take 3).length).map (0 + ·) ++ (3 :: ((List.range (rdO5.toList.drop 4).length).map (4 + ·) ++ [])):=by kernel_rfl
theorem rd7_0 : sigOf rdO7 0 = some (.indexAddr 227 (.tmp 38) (.tmp 40),some 42,true):=by kernel_rfl
theorem rd7_1 : sigOf rdO7 1 = some (.load 5 (.tmp 42),some 43,true):=by kernel_rfl
theorem rd7_2 : sigOf rdO7 2 = some (.assign (.tmp 43),some 7,true):=by kernel_rfl
theorem rd7_n : List.range rdO7.size = [0,1,2]:=by kernel_rfl
theorem rd_q5a : opsRun Tryz.prog (callN Tryz.prog { gam:=gamRd F } 4 (Bool × St)) (isSum (gamRd F)) 165 rdO5 (rdO5.toList.take 3) (rdS5 k d 0 []) [] (endOps [4096,rN1,rN2] (restN 165 [1,2,3,5,37])) = bif decide (0 ≤ (0 : Int) ∧ 0 ≤ (6 : Int) ∧ 6 ≤ (d.size : Int)) then some (true,rdS5 k d 0 [(37,.val (.string (d.extract 0 6)))]) else none:=by kernel_rfl
theorem rd_q5b (s : ByteArray) : opsRun Tryz.prog (callN Tryz.prog { gam:=gamRd F } 4 (Bool × St)) (isSum (gamRd F)) 165 rdO5 (rdO5.toList.drop 4) { rdS5 k d 0 [(37,.val (.string s))] with tmps:=(rdS5 k d 0 [(37,.val (.string s))]).tmps.set 38 (.val (.slice (some ad) 6 c)) } [] (endOps [4096,rN1,rN2] (restN 165 [1,2,3,5,38,39,40])) = some (true,rdK k d 0 0 (some ad) c []):=by kernel_rfl
theorem rd_qT : rdRun F rdT1 (rdK k d i z a c []) [4096,rN1,rN2] [1,2,3,5,38,39,40,41] = some (.normal,rdK k d i z a c [(41,.val (.bool (decide (i < 6))))]):=by kernel_rfl
theorem rd_qY : rdRun F rdT2 (rdK k d i z a c [(41,.val (.bool true))]) [4096,rN1,rN2] [1,2,3,5,38,39,40] = some (.normal,rdK k d i z a c []):=by kernel_rfl
theorem rd_qZ : rdRun F rdT2 (rdK k d i z a c [(41,.val (.bool false))]) [4096,rN1,rN2] [1,2,3,5] = some (.exit 0,rdS5 k d z []):=by kernel_rfl
theorem rd_qB : rdRun F rdC8 (rdK k d i z a c [(7,.val (.int .u8 v))]) [4096,rN1,rN2] [1,2,3,5,38,39,40] = some (.normal,rdK k d i (tkF z v) a c []):=by kernel_rfl
theorem rd_qC : rdRun F rdC9 (rdK k d i z a c []) [4096,rN1,rN2] [1,2,3,5,38,39,40] = some (.normal,rdK k d (IntKind.i64.wrap (i + 1)) z a c []):=by kernel_rfl
theorem rd_wJ : dropSt [4096,rN1,rN2] (restN 165 [1,2,3,5,7,38,39,40]) { rdK k d i z a c [] with tmps:=(((rdK k d i z a c []).tmps.set 42 (.val p)).set 43 (.val (.int .u8 v))).set 7 (.val (.int .u8 v)) } = rdK k d i z a c [(7,.val (.int .u8 v))]:=by kernel_rfl
theorem rd_len : (rdK k d i z a c []).tmps.length = 165:=by kernel_rfl
theorem rd_len5 : (rdS5 k d z [(37,.val (.string ds))]).tmps.length = 165:=by kernel_rfl
end
noncomputable def rdLoop (k : Int) (d : ByteArray) : BytesLoop Tryz.prog 165 Int 6 where
  id:=0
  id2:=1
  idR:=7
  T1:=rdT1
  T2:=rdT2
  rO:=rdO7
  BD:=rdC8
  INC:=rdC9
  ty:=227
  te:=5
  tS:=38
  tI:=40
  d1:=42
  d2:=43
  d3:=7
  I i z a c:=rdK k d i z a c []
  I1 i z a c t:=rdK k d i z a c [(41,.val (.bool t))]
  J i z a c v:=rdK k d i z a c [(7,.val (.int .u8 v))]
  K i z a c:=rdK k d i z a c []
  E z:=rdS5 k d z []
  F:=tkF
theorem rdLoop_ok {F : RdOps} (hG : GamOk Tryz.prog (gamRd F)) (k : Int) (d : ByteArray) : (rdLoop k d).Ok where
  r0:=rd7_0
  r1:=rd7_1
  r2:=rd7_2
  rn:=rd7_n
  u:=v38
  ue:=zv5
  s1:=j5
  b1:=by show 42 < 165; omega
  b2:=by show 43 < 165; omega
  b3:=by show 7 < 165; omega
  n1:=by show 42 ≠ 43; omega
  len i z a c:=rd_len k z i d a c
  hS i z a c:=by show (rdK k d i z a c []).tmps[38]? = _; rfl
  hI i z a c:=by show (rdK k d i z a c []).tmps[40]? = _; rfl
  hJ i z a c p v:=⟨by
    show Wk (rdK k d i z a c [(7,.val (.int .u8 v))]).u _
    rw [← rd_wJ k z i v d a c p]
    exact dropSt_wk _ _ _,Nat.le_refl _,Nat.le_refl _⟩
  hT i z a c:=gRun_runs (E:={ gam:=gamRd F }) hG (rd_qT F k z i d a c)
  hY i z a c:=gRun_runs (E:={ gam:=gamRd F }) hG (rd_qY F k z i d a c)
  hX i z a c:=gRun_runs (E:={ gam:=gamRd F }) hG (rd_qZ F k z i d a c)
  hB i z a c v:=gRun_runs (E:={ gam:=gamRd F }) hG (rd_qB F k z i v d a c)
  hC i z a c hi:=by
    have h:=gRun_runs (E:={ gam:=gamRd F }) hG (rd_qC F k z i d a c)
    have e : IntKind.i64.wrap ((i : Int) + 1) = ((i + 1 : Nat) : Int):=by rw [wrapM]; omega
    rw [e] at h
    exact h
def tickV (d : ByteArray) : Int:=(d.extract 0 6).data.toList.foldl (fun z b=>tkF z b.toNat) 0
theorem rd_p4 {F : RdOps} (hG : GamOk Tryz.prog (gamRd F)) (k : Int) (d : ByteArray) (hd : 6 ≤ d.size) : RunsTo Tryz.prog 165 (rdL 4) (rdS5 k d 0 []) .normal (rdS5 k d (tickV d) []):=by
  rw [rd4_is]
  intro w0 own σ0 lo0 hi0 act w hst Q hQ
  have hsz : (d.extract 0 6).size = 6:=by rw [ByteArray.size_extract]; omega
  have hq:=rd_q5a F k d
  rw [decide_eq_true (by omega),cond_true] at hq
  refine wp_seq (wp_region ?_)
  rw [rd5_n]
  refine ops_fit (callN_ok (E:={ gam:=gamRd F }) hG 4 _) [4096,rN1,rN2] _ hq (fun _ _ hj=>take_at hj) hst _ fun a1 w1 h1=>?_
  refine conv_else rd5_3 (by omega) (rd_len5 ..) h1 (str:=d.extract 0 6) rfl v9 v38 zv5 _ fun a2 w2 own1 σ1 r c hr ho hcell _ h2 back=>?_
  rw [hsz] at h2 hcell
  refine ops_fit (callN_ok (E:={ gam:=gamRd F }) hG 4 _) [4096,rN1,rN2] _ (rd_q5b F k d ⟨r,0,none⟩ c (d.extract 0 6)) (fun _ _ hj=>drop_at hj) h2 [] fun a3 w3 h3=>?_
  refine BytesLoop.run (rdLoop_ok hG k d) (l:=(d.extract 0 6).data.toList) hsz hr ho hcell 0 h3 fun a4 w4 h4=>?_
  exact hQ a4 w4 (back _ _ _ h4)
end Go.Ab
set_option linter.unusedSimpArgs false
namespace Go.Ab
open Go Go.Proofs
structure OdOps where
  lo : Int × Unit→Int
  rt : Orb × Unit→Bool
def gamOr (F : OdOps) : Gam:=[(242,S0 F.lo),(212,S0 F.rt)]
noncomputable def odR : Nat→Code
  | 0=>Tryz.f211.body.getD .skip
  | k + 1=>seqR (odR k)
noncomputable def odL (k : Nat) : Code:=seqL (odR k)
theorem od_is : Tryz.f211.body = some (.seq (odL 0) (.seq (odL 1) (.seq (odL 2) (.seq (odL 3) (.seq (odL 4) (.seq (odL 5) (odR 6))))))):=by kernel_rfl
theorem od_N : Tryz.f211.ntmps = 90:=by kernel_rfl
theorem f211_is : Tryz.prog.funcs[211]? = some Tryz.f211:=by kernel_rfl
def oN1 : Nat:=4096 + 1 * 2 ^ 180
def oN2 : Nat:=4096 + 2 * 2 ^ 180
def oN3 : Nat:=4096 + 3 * 2 ^ 180
def oN4 : Nat:=4096 + 4 * 2 ^ 180
def oRow (o : Odr) : Con:=.row 86 ((CodL.encl o).map AV.val)
def orb0 : Orb:=⟨0,0,0,0,0,0,0⟩
def odr0 : Odr:=⟨0,0,orb0⟩
def odT0 : List (Nat × AV):=[(1,.ptr 4096 0),(2,.ptr oN1 0)]
def odT : List (Nat × AV):=[(1,.ptr 4096 0),(2,.ptr oN1 0),(3,.val (.int .i64 0)),(4,.ptr oN2 0),(5,.ptr oN3 0)]
def odS0 (k : Int) (d : ByteArray) : St:=gSt 90 (odT0 ++ [(3,.val (.int .i64 0))]) [(4096,fRow k d),(oN1,oRow odr0)] oN2
def odS1 (k : Int) (d : ByteArray) (nn : Odr) : St:=gSt 90 (odT0 ++ [(3,.val (.int .i64 0)),(4,.ptr oN2 0)]) [(4096,fRow k d),(oN1,oRow odr0),(oN2,oRow nn)] oN3
def odS (k : Int) (d : ByteArray) (nn o : Odr) (tm : List (Nat × AV)) : St:=gSt 90 (odT ++ tm) [(4096,fRow k d),(oN1,oRow odr0),(oN2,oRow nn),(oN3,oRow o)] oN4
def odZ (o : Odr) (e : Int) (lo : Nat) : St:=gSt 90 [(2,.ptr oN1 0),(3,.val (.int .i64 e))] [(oN1,oRow o)] lo
noncomputable abbrev odRun (F : OdOps) (c : Code) (s : St) (ks ts : List Nat) : Option (Ex × St):=gRun Tryz.prog { gam:=gamOr F } 90 c s ks ts
section
variable (F : OdOps) (k n : Int) (d : ByteArray) (nn o : Odr)
theorem od_q0 : odRun F (odL 0) (startS 90 [.val (Cod.enc (Fr.mk k d))] []) [4096,oN1] [1,2,3] = some (.normal,odS0 k d):=by kernel_rfl
theorem od_q1 : odRun F (odL 1) (odS0 k d) [4096,oN1] [1,2,3] = bif k != 16 then some (.ret,gSt 90 (odT0 ++ [(3,.val (.int .i64 1))]) [(4096,fRow k d),(oN1,oRow odr0)] oN2) else bif decide ((d.size : Int) < 2) then some (.ret,gSt 90 (odT0 ++ [(3,.val (.int .i64 1))]) [(4096,fRow k d),(oN1,oRow odr0)] oN2) else some (.normal,odS0 k d):=by kernel_rfl
theorem od_q2 : odRun F (odL 2) (odS0 k d) [4096,oN1,oN2] [1,2,3,4] = bif decide (0 ≤ (0 : Int) ∧ 0 < (d.size : Int)) then some (.normal,odS1 k d ⟨IntKind.i64.wrap (byA d 0),0,orb0⟩) else none:=by kernel_rfl
theorem od_q3 : odRun F (odL 3) (odS1 k d nn) [4096,oN1,oN2,oN3] [1,2,3,4,5] = bif decide (0 ≤ (1 : Int) ∧ 1 < (d.size : Int)) then some (.normal,odS k d nn ⟨nn.seq,IntKind.i64.wrap (byA d 1),orb0⟩ []) else none:=by kernel_rfl
theorem od_q4 : odRun F (odL 4) (odS k d nn o []) [4096,oN1,oN2,oN3] [1,2,3,4,5] = bif F.lo (o.code,()) == 0 then some (.ret,gSt 90 (odT0 ++ [(3,.val (.int .i64 2)),(4,.ptr oN2 0),(5,.ptr oN3 0)]) [(4096,fRow k d),(oN1,oRow nn),(oN2,oRow nn),(oN3,oRow o)] oN4) else
    bif F.lo (o.code,()) != (d.size : Int) then some (.ret,gSt 90 (odT0 ++ [(3,.val (.int .i64 1)),(4,.ptr oN2 0),(5,.ptr oN3 0)]) [(4096,fRow k d),(oN1,oRow nn),(oN2,oRow nn),(oN3,oRow o)] oN4) else some (.normal,odS k d nn o []):=by kernel_rfl
theorem od_q6 : odRun F (odR 6) (odS k d nn o []) [oN1] [2,3] = some (.ret,odZ o 0 oN4):=by kernel_rfl
end
end Go.Ab
set_option linter.unusedSimpArgs false
namespace Go.Ab
open Go Go.Proofs
def oN5 : Nat:=4096 + 5 * 2 ^ 180
noncomputable def odC5 : Code:=seqR (odL 5)
noncomputable def odCT : Code:=ifT odC5
noncomputable def odR11 : Code:=seqL (seqL odCT)
noncomputable def odR20 : Code:=seqR odCT
noncomputable def odOB : Code:=inB (inB (seqR (seqL odCT)))
noncomputable def odR12 : Code:=seqL odOB
noncomputable def odXc : Code:=seqL (seqR odOB)
noncomputable def odB2 : Code:=inB (seqL (seqR (seqR odOB)))
noncomputable def odR13 : Code:=seqL odB2
noncomputable def odO14 : Array Oper:=regO (seqL (seqR odB2))
noncomputable def odIB : Code:=inB (inB (seqR (seqR odB2)))
noncomputable def odT1 : Code:=seqL odIB
noncomputable def odT2 : Code:=seqL (seqR odIB)
noncomputable def odB4 : Code:=inB (seqL (seqR (seqR odIB)))
noncomputable def odO16 : Array Oper:=regO (seqL odB4)
noncomputable def odR17 : Code:=seqR odB4
noncomputable def odR18 : Code:=seqR (seqR (seqR odIB))
noncomputable def odR19 : Code:=seqR (seqR (seqR odOB))
theorem od5_is : odL 5 = .seq (seqL (odL 5)) (.cond (.tmp 49) (.seq (.seq odR11 (.block 1 (.loop odOB))) odR20) .skip):=by kernel_rfl
theorem odOB_is : odOB = .seq odR12 (.seq odXc (.seq (.block 2 (.seq odR13 (.seq (.region 14 odO14 false) (.block 3 (.loop (.seq odT1 (.seq odT2 (.seq (.block 4 (.seq (.region 16 odO16 false) odR17)) odR18)))))))) odR19)):=by kernel_rfl
def setO (o : Orb) (i : Nat) (z : Int) : Orb:=match i with
  | 0=>{ o with a:=z }
  | 1=>{ o with e:=z }
  | 2=>{ o with i:=z }
  | 3=>{ o with node:=z }
  | 4=>{ o with peri:=z }
  | 5=>{ o with m:=z }
  | _=>{ o with tk:=z }
def getO (o : Orb) (i : Nat) : Int:=match i with
  | 0=>o.a
  | 1=>o.e
  | 2=>o.i
  | 3=>o.node
  | 4=>o.peri
  | 5=>o.m
  | _=>o.tk
def odPs : Con:=.row 275 [.ptr oN3 2,.ptr oN3 3,.ptr oN3 4,.ptr oN3 5,.ptr oN3 6,.ptr oN3 7,.ptr oN3 8]
def odP (k : Int) (d : ByteArray) (nn : Odr) (s c : Int) (ob : Orb) (i : Nat) (tm : List (Nat × AV)) : St:=gSt 90 (odT ++ [(51,.slice oN4 0 7 7),(52,.val (.int .i64 7)),(53,.val (.int .i64 i))] ++ tm) [(4096,fRow k d),(oN1,oRow odr0),(oN2,oRow nn),(oN3,oRow ⟨s,c,ob⟩),(oN4,odPs)] oN5
def odQ (k : Int) (d : ByteArray) (nn : Odr) (s c : Int) (ob : Orb) (i : Nat) (j z : Int) (a : Option Addr) (cp : Nat) (tm : List (Nat × AV)) : St:=odP k d nn s c (setO ob i z) i ([(8,.ptr oN3 (2 + i)),(67,.val (.slice a 8 cp)),(68,.val (.int .i64 8)),(69,.val (.int .i64 j))] ++ tm)
abbrev OdK : List Nat:=[4096,oN1,oN2,oN3,oN4]
section
variable (F : OdOps) (k : Int) (d str : ByteArray) (nn o : Odr) (s c : Int) (ob : Orb) (j z v : Int) (a : Option Addr) (ad : Addr) (cp : Nat) (t : Bool) (p : Value)
theorem od14_9 : sigOf odO14 9 = some (.convert 9 227 (.tmp 66),some 67,true):=by kernel_rfl
theorem od14_n : List.range odO14.size = (List.range (odO14.toList.take 9).length).map (0 + ·) ++ (9 :: ((List.range (odO14.toList.drop 10).length).map (10 + ·) ++ [])):=by kernel_rfl
theorem od16_0 : sigOf odO16 0 = some (.indexAddr 227 (.tmp 67) (.tmp 69),some 71,true):=by kernel_rfl
theorem od16_1 : sigOf odO16 1 = some (.load 5 (.tmp 71),some 72,true):=by kernel_rfl
theorem od16_2 : sigOf odO16 2 = some (.assign (.tmp 72),some 10,true):=by kernel_rfl
theorem od16_n : List.range odO16.size = [0,1,2]:=by kernel_rfl
theorem od_c10 : odRun F (seqL (odL 5)) (odS k d nn o []) [4096,oN1,oN2,oN3] [1,2,3,4,5,49] = some (.normal,odS k d nn o [(49,.val (.bool (o.code == 3)))]):=by kernel_rfl
theorem od_c11 : odRun F odR11 (odS k d nn ⟨s,c,ob⟩ [(49,.val (.bool true))]) OdK [1,2,3,4,5,51,52,53] = some (.normal,odP k d nn s c ob 0 []):=by kernel_rfl
theorem od_t_0 : odRun F odR12 (odP k d nn s c ob 0 []) OdK [1,2,3,4,5,51,52,53,54] = some (.normal,odP k d nn s c ob 0 [(54,.val (.bool true))]):=by kernel_rfl
theorem od_tc_0 : odRun F odXc (odP k d nn s c ob 0 [(54,.val (.bool true))]) OdK [1,2,3,4,5,51,52,53] = some (.normal,odP k d nn s c ob 0 []):=by kernel_rfl
theorem od_a_0 : odRun F odR13 (odP k d nn s c ob 0 []) OdK [1,2,3,4,5,7,8,51,52,53] = some (.normal,odP k d nn s c ob 0 [(7,.val (.int .i64 0)),(8,.ptr oN3 2)]):=by kernel_rfl
theorem od_b_0 : opsRun Tryz.prog (callN Tryz.prog { gam:=gamOr F } 4 (Bool × St)) (isSum (gamOr F)) 90 odO14 (odO14.toList.take 9) (odP k d nn s c ob 0 [(7,.val (.int .i64 0)),(8,.ptr oN3 2)]) [] (endOps OdK (restN 90 [1,2,3,4,5,8,51,52,53,66])) = bif decide (0 ≤ (2 : Int) ∧ (2 : Int) ≤ 10 ∧ 10 ≤ (d.size : Int)) then some (true,odP k d nn s c ob 0 [(8,.ptr oN3 2),(66,.val (.string (d.extract 2 10)))]) else none:=by kernel_rfl
theorem od_c_0 : opsRun Tryz.prog (callN Tryz.prog { gam:=gamOr F } 4 (Bool × St)) (isSum (gamOr F)) 90 odO14 (odO14.toList.drop 10) { odP k d nn s c ob 0 [(8,.ptr oN3 2),(66,.val (.string str))] with tmps:=(odP k d nn s c ob 0 [(8,.ptr oN3 2),(66,.val (.string str))]).tmps.set 67 (.val (.slice (some ad) 8 cp)) } [] (endOps OdK (restN 90 [1,2,3,4,5,8,51,52,53,67,68,69])) = some (true,odQ k d nn s c ob 0 0 (getO ob 0) (some ad) cp []):=by kernel_rfl
theorem od_T_0 : odRun F odT1 (odQ k d nn s c ob 0 j z a cp []) OdK [1,2,3,4,5,8,51,52,53,67,68,69,70] = some (.normal,odQ k d nn s c ob 0 j z a cp [(70,.val (.bool (decide (j < 8))))]):=by kernel_rfl
theorem od_Y_0 : odRun F odT2 (odQ k d nn s c ob 0 j z a cp [(70,.val (.bool true))]) OdK [1,2,3,4,5,8,51,52,53,67,68,69] = some (.normal,odQ k d nn s c ob 0 j z a cp []):=by kernel_rfl
theorem od_Z_0 : odRun F odT2 (odQ k d nn s c ob 0 j z a cp [(70,.val (.bool false))]) OdK [1,2,3,4,5,51,52,53] = some (.exit 3,odP k d nn s c (setO ob 0 z) 0 []):=by kernel_rfl
theorem od_B_0 : odRun F odR17 (odQ k d nn s c ob 0 j z a cp [(10,.val (.int .u8 v))]) OdK [1,2,3,4,5,8,51,52,53,67,68,69] = some (.normal,odQ k d nn s c ob 0 j (tkF z v) a cp []):=by kernel_rfl
theorem od_C_0 : odRun F odR18 (odQ k d nn s c ob 0 j z a cp []) OdK [1,2,3,4,5,8,51,52,53,67,68,69] = some (.normal,odQ k d nn s c ob 0 (IntKind.i64.wrap (j + 1)) z a cp []):=by kernel_rfl
theorem od_J_0 : dropSt OdK (restN 90 [1,2,3,4,5,8,10,51,52,53,67,68,69]) { odQ k d nn s c ob 0 j z a cp [] with tmps:=(((odQ k d nn s c ob 0 j z a cp []).tmps.set 71 (.val p)).set 72 (.val (.int .u8 v))).set 10 (.val (.int .u8 v)) } = odQ k d nn s c ob 0 j z a cp [(10,.val (.int .u8 v))]:=by kernel_rfl
theorem od_d_0 : odRun F odR19 (odP k d nn s c ob 0 []) OdK [1,2,3,4,5,51,52,53] = some (.normal,odP k d nn s c ob 1 []):=by kernel_rfl
theorem od_t_1 : odRun F odR12 (odP k d nn s c ob 1 []) OdK [1,2,3,4,5,51,52,53,54] = some (.normal,odP k d nn s c ob 1 [(54,.val (.bool true))]):=by kernel_rfl
theorem od_tc_1 : odRun F odXc (odP k d nn s c ob 1 [(54,.val (.bool true))]) OdK [1,2,3,4,5,51,52,53] = some (.normal,odP k d nn s c ob 1 []):=by kernel_rfl
theorem od_a_1 : odRun F odR13 (odP k d nn s c ob 1 []) OdK [1,2,3,4,5,7,8,51,52,53] = some (.normal,odP k d nn s c ob 1 [(7,.val (.int .i64 1)),(8,.ptr oN3 3)]):=by kernel_rfl
theorem od_b_1 : opsRun Tryz.prog (callN Tryz.prog { gam:=gamOr F } 4 (Bool × St)) (isSum (gamOr F)) 90 odO14 (odO14.toList.take 9) (odP k d nn s c ob 1 [(7,.val (.int .i64 1)),(8,.ptr oN3 3)]) [] (endOps OdK (restN 90 [1,2,3,4,5,8,51,52,53,66])) = bif decide (0 ≤ (10 : Int) ∧ (10 : Int) ≤ 18 ∧ 18 ≤ (d.size : Int)) then some (true,odP k d nn s c ob 1 [(8,.ptr oN3 3),(66,.val (.string (d.extract 10 18)))]) else none:=by kernel_rfl
theorem od_c_1 : opsRun Tryz.prog (callN Tryz.prog { gam:=gamOr F } 4 (Bool × St)) (isSum (gamOr F)) 90 odO14 (odO14.toList.drop 10) { odP k d nn s c ob 1 [(8,.ptr oN3 3),(66,.val (.string str))] with tmps:=(odP k d nn s c ob 1 [(8,.ptr oN3 3),(66,.val (.string str))]).tmps.set 67 (.val (.slice (some ad) 8 cp)) } [] (endOps OdK (restN 90 [1,2,3,4,5,8,51,52,53,67,68,69])) = some (true,odQ k d nn s c ob 1 0 (getO ob 1) (some ad) cp []):=by kernel_rfl
theorem od_T_1 : odRun F odT1 (odQ k d nn s c ob 1 j z a cp []) OdK [1,2,3,4,5,8,51,52,53,67,68,69,70] = some (.normal,odQ k d nn s c ob 1 j z a cp [(70,.val (.bool (decide (j < 8))))]):=by kernel_rfl
theorem od_Y_1 : odRun F odT2 (odQ k d nn s c ob 1 j z a cp [(70,.val (.bool true))]) OdK [1,2,3,4,5,8,51,52,53,67,68,69] = some (.normal,odQ k d nn s c ob 1 j z a cp []):=by kernel_rfl
theorem od_Z_1 : odRun F odT2 (odQ k d nn s c ob 1 j z a cp [(70,.val (.bool false))]) OdK [1,2,3,4,5,51,52,53] = some (.exit 3,odP k d nn s c (setO ob 1 z) 1 []):=by kernel_rfl
theorem od_B_1 : odRun F odR17 (odQ k d nn s c ob 1 j z a cp [(10,.val (.int .u8 v))]) OdK [1,2,3,4,5,8,51,52,53,67,68,69] = some (.normal,odQ k d nn s c ob 1 j (tkF z v) a cp []):=by kernel_rfl
theorem od_C_1 : odRun F odR18 (odQ k d nn s c ob 1 j z a cp []) OdK [1,2,3,4,5,8,51,52,53,67,68,69] = some (.normal,odQ k d nn s c ob 1 (IntKind.i64.wrap (j + 1)) z a cp []):=by kernel_rfl
theorem od_J_1 : dropSt OdK (restN 90 [1,2,3,4,5,8,10,51,52,53,67,68,69]) { odQ k d nn s c ob 1 j z a cp [] with tmps:=(((odQ k d nn s c ob 1 j z a cp []).tmps.set 71 (.val p)).set 72 (.val (.int .u8 v))).set 10 (.val (.int .u8 v)) } = odQ k d nn s c ob 1 j z a cp [(10,.val (.int .u8 v))]:=by kernel_rfl
theorem od_d_1 : odRun F odR19 (odP k d nn s c ob 1 []) OdK [1,2,3,4,5,51,52,53] = some (.normal,odP k d nn s c ob 2 []):=by kernel_rfl
theorem od_t_2 : odRun F odR12 (odP k d nn s c ob 2 []) OdK [1,2,3,4,5,51,52,53,54] = some (.normal,odP k d nn s c ob 2 [(54,.val (.bool true))]):=by kernel_rfl
theorem od_tc_2 : odRun F odXc (odP k d nn s c ob 2 [(54,.val (.bool true))]) OdK [1,2,3,4,5,51,52,53] = some (.normal,odP k d nn s c ob 2 []):=by kernel_rfl
theorem od_a_2 : odRun F odR13 (odP k d nn s c ob 2 []) OdK [1,2,3,4,5,7,8,51,52,53] = some (.normal,odP k d nn s c ob 2 [(7,.val (.int .i64 2)),(8,.ptr oN3 4)]):=by kernel_rfl
theorem od_b_2 : opsRun Tryz.prog (callN Tryz.prog { gam:=gamOr F } 4 (Bool × St)) (isSum (gamOr F)) 90 odO14 (odO14.toList.take 9) (odP k d nn s c ob 2 [(7,.val (.int .i64 2)),(8,.ptr oN3 4)]) [] (endOps OdK (restN 90 [1,2,3,4,5,8,51,52,53,66])) = bif decide (0 ≤ (18 : Int) ∧ (18 : Int) ≤ 26 ∧ 26 ≤ (d.size : Int)) then some (true,odP k d nn s c ob 2 [(8,.ptr oN3 4),(66,.val (.string (d.extract 18 26)))]) else none:=by kernel_rfl
theorem od_c_2 : opsRun Tryz.prog (callN Tryz.prog { gam:=gamOr F } 4 (Bool × St)) (isSum (gamOr F)) 90 odO14 (odO14.toList.drop 10) { odP k d nn s c ob 2 [(8,.ptr oN3 4),(66,.val (.string str))] with tmps:=(odP k d nn s c ob 2 [(8,.ptr oN3 4),(66,.val (.string str))]).tmps.set 67 (.val (.slice (some ad) 8 cp)) } [] (endOps OdK (restN 90 [1,2,3,4,5,8,51,52,53,67,68,69])) = some (true,odQ k d nn s c ob 2 0 (getO ob 2) (some ad) cp []):=by kernel_rfl
theorem od_T_2 : odRun F odT1 (odQ k d nn s c ob 2 j z a cp []) OdK [1,2,3,4,5,8,51,52,53,67,68,69,70] = some (.normal,odQ k d nn s c ob 2 j z a cp [(70,.val (.bool (decide (j < 8))))]):=by kernel_rfl
theorem od_Y_2 : odRun F odT2 (odQ k d nn s c ob 2 j z a cp [(70,.val (.bool true))]) OdK [1,2,3,4,5,8,51,52,53,67,68,69] = some (.normal,odQ k d nn s c ob 2 j z a cp []):=by kernel_rfl
theorem od_Z_2 : odRun F odT2 (odQ k d nn s c ob 2 j z a cp [(70,.val (.bool false))]) OdK [1,2,3,4,5,51,52,53] = some (.exit 3,odP k d nn s c (setO ob 2 z) 2 []):=by kernel_rfl
theorem od_B_2 : odRun F odR17 (odQ k d nn s c ob 2 j z a cp [(10,.val (.int .u8 v))]) OdK [1,2,3,4,5,8,51,52,53,67,68,69] = some (.normal,odQ k d nn s c ob 2 j (tkF z v) a cp []):=by kernel_rfl
theorem od_C_2 : odRun F odR18 (odQ k d nn s c ob 2 j z a cp []) OdK [1,2,3,4,5,8,51,52,53,67,68,69] = some (.normal,odQ k d nn s c ob 2 (IntKind.i64.wrap (j + 1)) z a cp []):=by kernel_rfl
theorem od_J_2 : dropSt OdK (restN 90 [1,2,3,4,5,8,10,51,52,53,67,68,69]) { odQ k d nn s c ob 2 j z a cp [] with tmps:=(((odQ k d nn s c ob 2 j z a cp []).tmps.set 71 (.val p)).set 72 (.val (.int .u8 v))).set 10 (.val (.int .u8 v)) } = odQ k d nn s c ob 2 j z a cp [(10,.val (.int .u8 v))]:=by kernel_rfl
theorem od_d_2 : odRun F odR19 (odP k d nn s c ob 2 []) OdK [1,2,3,4,5,51,52,53] = some (.normal,odP k d nn s c ob 3 []):=by kernel_rfl
theorem od_t_3 : odRun F odR12 (odP k d nn s c ob 3 []) OdK [1,2,3,4,5,51,52,53,54] = some (.normal,odP k d nn s c ob 3 [(54,.val (.bool true))]):=by kernel_rfl
theorem od_tc_3 : odRun F odXc (odP k d nn s c ob 3 [(54,.val (.bool true))]) OdK [1,2,3,4,5,51,52,53] = some (.normal,odP k d nn s c ob 3 []):=by kernel_rfl
theorem od_a_3 : odRun F odR13 (odP k d nn s c ob 3 []) OdK [1,2,3,4,5,7,8,51,52,53] = some (.normal,odP k d nn s c ob 3 [(7,.val (.int .i64 3)),(8,.ptr oN3 5)]):=by kernel_rfl
theorem od_b_3 : opsRun Tryz.prog (callN Tryz.prog { gam:=gamOr F } 4 (Bool × St)) (isSum (gamOr F)) 90 odO14 (odO14.toList.take 9) (odP k d nn s c ob 3 [(7,.val (.int .i64 3)),(8,.ptr oN3 5)]) [] (endOps OdK (restN 90 [1,2,3,4,5,8,51,52,53,66])) = bif decide (0 ≤ (26 : Int) ∧ (26 : Int) ≤ 34 ∧ 34 ≤ (d.size : Int)) then some (true,odP k d nn s c ob 3 [(8,.ptr oN3 5),(66,.val (.string (d.extract 26 34)))]) else none:=by kernel_rfl
theorem od_c_3 : opsRun Tryz.prog (callN Tryz.prog { gam:=gamOr F } 4 (Bool × St)) (isSum (gamOr F)) 90 odO14 (odO14.toList.drop 10) { odP k d nn s c ob 3 [(8,.ptr oN3 5),(66,.val (.string str))] with tmps:=(odP k d nn s c ob 3 [(8,.ptr oN3 5),(66,.val (.string str))]).tmps.set 67 (.val (.slice (some ad) 8 cp)) } [] (endOps OdK (restN 90 [1,2,3,4,5,8,51,52,53,67,68,69])) = some (true,odQ k d nn s c ob 3 0 (getO ob 3) (some ad) cp []):=by kernel_rfl
theorem od_T_3 : odRun F odT1 (odQ k d nn s c ob 3 j z a cp []) OdK [1,2,3,4,5,8,51,52,53,67,68,69,70] = some (.normal,odQ k d nn s c ob 3 j z a cp [(70,.val (.bool (decide (j < 8))))]):=by kernel_rfl
theorem od_Y_3 : odRun F odT2 (odQ k d nn s c ob 3 j z a cp [(70,.val (.bool true))]) OdK [1,2,3,4,5,8,51,52,53,67,68,69] = some (.normal,odQ k d nn s c ob 3 j z a cp []):=by kernel_rfl
theorem od_Z_3 : odRun F odT2 (odQ k d nn s c ob 3 j z a cp [(70,.val (.bool false))]) OdK [1,2,3,4,5,51,52,53] = some (.exit 3,odP k d nn s c (setO ob 3 z) 3 []):=by kernel_rfl
theorem od_B_3 : odRun F odR17 (odQ k d nn s c ob 3 j z a cp [(10,.val (.int .u8 v))]) OdK [1,2,3,4,5,8,51,52,53,67,68,69] = some (.normal,odQ k d nn s c ob 3 j (tkF z v) a cp []):=by kernel_rfl
theorem od_C_3 : odRun F odR18 (odQ k d nn s c ob 3 j z a cp []) OdK [1,2,3,4,5,8,51,52,53,67,68,69] = some (.normal,odQ k d nn s c ob 3 (IntKind.i64.wrap (j + 1)) z a cp []):=by kernel_rfl
theorem od_J_3 : dropSt OdK (restN 90 [1,2,3,4,5,8,10,51,52,53,67,68,69]) { odQ k d nn s c ob 3 j z a cp [] with tmps:=(((odQ k d nn s c ob 3 j z a cp []).tmps.set 71 (.val p)).set 72 (.val (.int .u8 v))).set 10 (.val (.int .u8 v)) } = odQ k d nn s c ob 3 j z a cp [(10,.val (.int .u8 v))]:=by kernel_rfl
theorem od_d_3 : odRun F odR19 (odP k d nn s c ob 3 []) OdK [1,2,3,4,5,51,52,53] = some (.normal,odP k d nn s c ob 4 []):=by kernel_rfl
theorem od_t_4 : odRun F odR12 (odP k d nn s c ob 4 []) OdK [1,2,3,4,5,51,52,53,54] = some (.normal,odP k d nn s c ob 4 [(54,.val (.bool true))]):=by kernel_rfl
theorem od_tc_4 : odRun F odXc (odP k d nn s c ob 4 [(54,.val (.bool true))]) OdK [1,2,3,4,5,51,52,53] = some (.normal,odP k d nn s c ob 4 []):=by kernel_rfl
theorem od_a_4 : odRun F odR13 (odP k d nn s c ob 4 []) OdK [1,2,3,4,5,7,8,51,52,53] = some (.normal,odP k d nn s c ob 4 [(7,.val (.int .i64 4)),(8,.ptr oN3 6)]):=by kernel_rfl
theorem od_b_4 : opsRun Tryz.prog (callN Tryz.prog { gam:=gamOr F } 4 (Bool × St)) (isSum (gamOr F)) 90 odO14 (odO14.toList.take 9) (odP k d nn s c ob 4 [(7,.val (.int .i64 4)),(8,.ptr oN3 6)]) [] (endOps OdK (restN 90 [1,2,3,4,5,8,51,52,53,66])) = bif decide (0 ≤ (34 : Int) ∧ (34 : Int) ≤ 42 ∧ 42 ≤ (d.size : Int)) then some (true,odP k d nn s c ob 4 [(8,.ptr oN3 6),(66,.val (.string (d.extract 34 42)))]) else none:=by kernel_rfl
theorem od_c_4 : opsRun Tryz.prog (callN Tryz.prog { gam:=gamOr F } 4 (Bool × St)) (isSum (gamOr F)) 90 odO14 (odO14.toList.drop 10) { odP k d nn s c ob 4 [(8,.ptr oN3 6),(66,.val (.string str))] with tmps:=(odP k d nn s c ob 4 [(8,.ptr oN3 6),(66,.val (.string str))]).tmps.set 67 (.val (.slice (some ad) 8 cp)) } [] (endOps OdK (restN 90 [1,2,3,4,5,8,51,52,53,67,68,69])) = some (true,odQ k d nn s c ob 4 0 (getO ob 4) (some ad) cp []):=by kernel_rfl
theorem od_T_4 : odRun F odT1 (odQ k d nn s c ob 4 j z a cp []) OdK [1,2,3,4,5,8,51,52,53,67,68,69,70] = some (.normal,odQ k d nn s c ob 4 j z a cp [(70,.val (.bool (decide (j < 8))))]):=by kernel_rfl
theorem od_Y_4 : odRun F odT2 (odQ k d nn s c ob 4 j z a cp [(70,.val (.bool true))]) OdK [1,2,3,4,5,8,51,52,53,67,68,69] = some (.normal,odQ k d nn s c ob 4 j z a cp []):=by kernel_rfl
theorem od_Z_4 : odRun F odT2 (odQ k d nn s c ob 4 j z a cp [(70,.val (.bool false))]) OdK [1,2,3,4,5,51,52,53] = some (.exit 3,odP k d nn s c (setO ob 4 z) 4 []):=by kernel_rfl
theorem od_B_4 : odRun F odR17 (odQ k d nn s c ob 4 j z a cp [(10,.val (.int .u8 v))]) OdK [1,2,3,4,5,8,51,52,53,67,68,69] = some (.normal,odQ k d nn s c ob 4 j (tkF z v) a cp []):=by kernel_rfl
theorem od_C_4 : odRun F odR18 (odQ k d nn s c ob 4 j z a cp []) OdK [1,2,3,4,5,8,51,52,53,67,68,69] = some (.normal,odQ k d nn s c ob 4 (IntKind.i64.wrap (j + 1)) z a cp []):=by kernel_rfl
theorem od_J_4 : dropSt OdK (restN 90 [1,2,3,4,5,8,10,51,52,53,67,68,69]) { odQ k d nn s c ob 4 j z a cp [] with tmps:=(((odQ k d nn s c ob 4 j z a cp []).tmps.set 71 (.val p)).set 72 (.val (.int .u8 v))).set 10 (.val (.int .u8 v)) } = odQ k d nn s c ob 4 j z a cp [(10,.val (.int .u8 v))]:=by kernel_rfl
theorem od_d_4 : odRun F odR19 (odP k d nn s c ob 4 []) OdK [1,2,3,4,5,51,52,53] = some (.normal,odP k d nn s c ob 5 []):=by kernel_rfl
theorem od_t_5 : odRun F odR12 (odP k d nn s c ob 5 []) OdK [1,2,3,4,5,51,52,53,54] = some (.normal,odP k d nn s c ob 5 [(54,.val (.bool true))]):=by kernel_rfl
theorem od_tc_5 : odRun F odXc (odP k d nn s c ob 5 [(54,.val (.bool true))]) OdK [1,2,3,4,5,51,52,53] = some (.normal,odP k d nn s c ob 5 []):=by kernel_rfl
theorem od_a_5 : odRun F odR13 (odP k d nn s c ob 5 []) OdK [1,2,3,4,5,7,8,51,52,53] = some (.normal,odP k d nn s c ob 5 [(7,.val (.int .i64 5)),(8,.ptr oN3 7)]):=by kernel_rfl
theorem od_b_5 : opsRun Tryz.prog (callN Tryz.prog { gam:=gamOr F } 4 (Bool × St)) (isSum (gamOr F)) 90 odO14 (odO14.toList.take 9) (odP k d nn s c ob 5 [(7,.val (.int .i64 5)),(8,.ptr oN3 7)]) [] (endOps OdK (restN 90 [1,2,3,4,5,8,51,52,53,66])) = bif decide (0 ≤ (42 : Int) ∧ (42 : Int) ≤ 50 ∧ 50 ≤ (d.size : Int)) then some (true,odP k d nn s c ob 5 [(8,.ptr oN3 7),(66,.val (.string (d.extract 42 50)))]) else none:=by kernel_rfl
theorem od_c_5 : opsRun Tryz.prog (callN Tryz.prog { gam:=gamOr F } 4 (Bool × St)) (isSum (gamOr F)) 90 odO14 (odO14.toList.drop 10) { odP k d nn s c ob 5 [(8,.ptr oN3 7),(66,.val (.string str))] with tmps:=(odP k d nn s c ob 5 [(8,.ptr oN3 7),(66,.val (.string str))]).tmps.set 67 (.val (.slice (some ad) 8 cp)) } [] (endOps OdK (restN 90 [1,2,3,4,5,8,51,52,53,67,68,69])) = some (true,odQ k d nn s c ob 5 0 (getO ob 5) (some ad) cp []):=by kernel_rfl
theorem od_T_5 : odRun F odT1 (odQ k d nn s c ob 5 j z a cp []) OdK [1,2,3,4,5,8,51,52,53,67,68,69,70] = some (.normal,odQ k d nn s c ob 5 j z a cp [(70,.val (.bool (decide (j < 8))))]):=by kernel_rfl
theorem od_Y_5 : odRun F odT2 (odQ k d nn s c ob 5 j z a cp [(70,.val (.bool true))]) OdK [1,2,3,4,5,8,51,52,53,67,68,69] = some (.normal,odQ k d nn s c ob 5 j z a cp []):=by kernel_rfl
theorem od_Z_5 : odRun F odT2 (odQ k d nn s c ob 5 j z a cp [(70,.val (.bool false))]) OdK [1,2,3,4,5,51,52,53] = some (.exit 3,odP k d nn s c (setO ob 5 z) 5 []):=by kernel_rfl
theorem od_B_5 : odRun F odR17 (odQ k d nn s c ob 5 j z a cp [(10,.val (.int .u8 v))]) OdK [1,2,3,4,5,8,51,52,53,67,68,69] = some (.normal,odQ k d nn s c ob 5 j (tkF z v) a cp []):=by kernel_rfl
theorem od_C_5 : odRun F odR18 (odQ k d nn s c ob 5 j z a cp []) OdK [1,2,3,4,5,8,51,52,53,67,68,69] = some (.normal,odQ k d nn s c ob 5 (IntKind.i64.wrap (j + 1)) z a cp []):=by kernel_rfl
theorem od_J_5 : dropSt OdK (restN 90 [1,2,3,4,5,8,10,51,52,53,67,68,69]) { odQ k d nn s c ob 5 j z a cp [] with tmps:=(((odQ k d nn s c ob 5 j z a cp []).tmps.set 71 (.val p)).set 72 (.val (.int .u8 v))).set 10 (.val (.int .u8 v)) } = odQ k d nn s c ob 5 j z a cp [(10,.val (.int .u8 v))]:=by kernel_rfl
theorem od_d_5 : odRun F odR19 (odP k d nn s c ob 5 []) OdK [1,2,3,4,5,51,52,53] = some (.normal,odP k d nn s c ob 6 []):=by kernel_rfl
theorem od_t_6 : odRun F odR12 (odP k d nn s c ob 6 []) OdK [1,2,3,4,5,51,52,53,54] = some (.normal,odP k d nn s c ob 6 [(54,.val (.bool true))]):=by kernel_rfl
theorem od_tc_6 : odRun F odXc (odP k d nn s c ob 6 [(54,.val (.bool true))]) OdK [1,2,3,4,5,51,52,53] = some (.normal,odP k d nn s c ob 6 []):=by kernel_rfl
theorem od_a_6 : odRun F odR13 (odP k d nn s c ob 6 []) OdK [1,2,3,4,5,7,8,51,52,53] = some (.normal,odP k d nn s c ob 6 [(7,.val (.int .i64 6)),(8,.ptr oN3 8)]):=by kernel_rfl
theorem od_b_6 : opsRun Tryz.prog (callN Tryz.prog { gam:=gamOr F } 4 (Bool × St)) (isSum (gamOr F)) 90 odO14 (odO14.toList.take 9) (odP k d nn s c ob 6 [(7,.val (.int .i64 6)),(8,.ptr oN3 8)]) [] (endOps OdK (restN 90 [1,2,3,4,5,8,51,52,53,66])) = bif decide (0 ≤ (50 : Int) ∧ (50 : Int) ≤ 58 ∧ 58 ≤ (d.size : Int)) then some (true,odP k d nn s c ob 6 [(8,.ptr oN3 8),(66,.val (.string (d.extract 50 58)))]) else none:=by kernel_rfl
theorem od_c_6 : opsRun Tryz.prog (callN Tryz.prog { gam:=gamOr F } 4 (Bool × St)) (isSum (gamOr F)) 90 odO14 (odO14.toList.drop 10) { odP k d nn s c ob 6 [(8,.ptr oN3 8),(66,.val (.string str))] with tmps:=(odP k d nn s c ob 6 [(8,.ptr oN3 8),(66,.val (.string str))]).tmps.set 67 (.val (.slice (some ad) 8 cp)) } [] (endOps OdK (restN 90 [1,2,3,4,5,8,51,52,53,67,68,69])) = some (true,odQ k d nn s c ob 6 0 (getO ob 6) (some ad) cp []):=by kernel_rfl
theorem od_T_6 : odRun F odT1 (odQ k d nn s c ob 6 j z a cp []) OdK [1,2,3,4,5,8,51,52,53,67,68,69,70] = some (.normal,odQ k d nn s c ob 6 j z a cp [(70,.val (.bool (decide (j < 8))))]):=by kernel_rfl
theorem od_Y_6 : odRun F odT2 (odQ k d nn s c ob 6 j z a cp [(70,.val (.bool true))]) OdK [1,2,3,4,5,8,51,52,53,67,68,69] = some (.normal,odQ k d nn s c ob 6 j z a cp []):=by kernel_rfl
theorem od_Z_6 : odRun F odT2 (odQ k d nn s c ob 6 j z a cp [(70,.val (.bool false))]) OdK [1,2,3,4,5,51,52,53] = some (.exit 3,odP k d nn s c (setO ob 6 z) 6 []):=by kernel_rfl
theorem od_B_6 : odRun F odR17 (odQ k d nn s c ob 6 j z a cp [(10,.val (.int .u8 v))]) OdK [1,2,3,4,5,8,51,52,53,67,68,69] = some (.normal,odQ k d nn s c ob 6 j (tkF z v) a cp []):=by kernel_rfl
theorem od_C_6 : odRun F odR18 (odQ k d nn s c ob 6 j z a cp []) OdK [1,2,3,4,5,8,51,52,53,67,68,69] = some (.normal,odQ k d nn s c ob 6 (IntKind.i64.wrap (j + 1)) z a cp []):=by kernel_rfl
theorem od_J_6 : dropSt OdK (restN 90 [1,2,3,4,5,8,10,51,52,53,67,68,69]) { odQ k d nn s c ob 6 j z a cp [] with tmps:=(((odQ k d nn s c ob 6 j z a cp []).tmps.set 71 (.val p)).set 72 (.val (.int .u8 v))).set 10 (.val (.int .u8 v)) } = odQ k d nn s c ob 6 j z a cp [(10,.val (.int .u8 v))]:=by kernel_rfl
theorem od_d_6 : odRun F odR19 (odP k d nn s c ob 6 []) OdK [1,2,3,4,5,51,52,53] = some (.normal,odP k d nn s c ob 7 []):=by kernel_rfl
theorem od_t_7 : odRun F odR12 (odP k d nn s c ob 7 []) OdK [1,2,3,4,5,51,52,53,54] = some (.normal,odP k d nn s c ob 7 [(54,.val (.bool false))]):=by kernel_rfl
theorem od_tc_7 : odRun F odXc (odP k d nn s c ob 7 [(54,.val (.bool false))]) [4096,oN1,oN2,oN3] [1,2,3,4,5] = some (.exit 1,{ odS k d nn ⟨s,c,ob⟩ [] with lo:=oN5 }):=by kernel_rfl
theorem od_e : odRun F odR20 { odS k d nn ⟨s,c,ob⟩ [] with lo:=oN5 } [4096,oN1,oN2,oN3] [1,2,3,4,5] = bif !F.rt (ob,()) then some (.ret,gSt 90 (odT0 ++ [(3,.val (.int .i64 3)),(4,.ptr oN2 0),(5,.ptr oN3 0)]) [(4096,fRow k d),(oN1,oRow nn),(oN2,oRow nn),(oN3,oRow ⟨s,c,ob⟩)] oN5) else some (.normal,{ odS k d nn ⟨s,c,ob⟩ [] with lo:=oN5 }):=by kernel_rfl
theorem od_q6' : odRun F (odR 6) { odS k d nn o [] with lo:=oN5 } [oN1] [2,3] = some (.ret,odZ o 0 oN5):=by kernel_rfl
theorem odQ_len (i : Nat) : (odQ k d nn s c ob i j z a cp []).tmps.length = 90:=by kernel_rfl
theorem odP_len (i : Nat) (tm : List (Nat × AV)) : (odP k d nn s c ob i tm).tmps.length = 90:=by kernel_rfl
end
end Go.Ab
set_option linter.unusedSimpArgs false
namespace Go.Ab
open Go Go.Proofs
theorem to7 {i : Nat} (h : i < 7) : i = 0 ∨ i = 1 ∨ i = 2 ∨ i = 3 ∨ i = 4 ∨ i = 5 ∨ i = 6:=by omega
noncomputable def odLoop (k : Int) (d : ByteArray) (nn : Odr) (s c : Int) (ob : Orb) (i : Nat) : BytesLoop Tryz.prog 90 Int 8 where
  id:=3
  id2:=4
  idR:=16
  T1:=odT1
  T2:=odT2
  rO:=odO16
  BD:=odR17
  INC:=odR18
  ty:=227
  te:=5
  tS:=67
  tI:=69
  d1:=71
  d2:=72
  d3:=10
  I j z a cp:=odQ k d nn s c ob i j z a cp []
  I1 j z a cp t:=odQ k d nn s c ob i j z a cp [(70,.val (.bool t))]
  J j z a cp v:=odQ k d nn s c ob i j z a cp [(10,.val (.int .u8 v))]
  K j z a cp:=odQ k d nn s c ob i j z a cp []
  E z:=odP k d nn s c (setO ob i z) i []
  F:=tkF
section
variable {F : OdOps} (hG : GamOk Tryz.prog (gamOr F)) (k : Int) (d : ByteArray) (nn : Odr) (s c : Int) (ob : Orb)
include hG
theorem odLoop_ok {i : Nat} (hi : i < 7) : (odLoop k d nn s c ob i).Ok where
  r0:=od16_0
  r1:=od16_1
  r2:=od16_2
  rn:=od16_n
  u:=v38
  ue:=zv5
  s1:=j5
  b1:=by show 71 < 90; omega
  b2:=by show 72 < 90; omega
  b3:=by show 10 < 90; omega
  n1:=by show 71 ≠ 72; omega
  len j z a cp:=odQ_len k d nn s c ob j z a cp i
  hS j z a cp:=by show (odQ k d nn s c ob i j z a cp []).tmps[67]? = _; rfl
  hI j z a cp:=by show (odQ k d nn s c ob i j z a cp []).tmps[69]? = _; rfl
  hJ j z a cp p v:=⟨by
    show Wk (odQ k d nn s c ob i j z a cp [(10,.val (.int .u8 v))]).u _
    have e : dropSt OdK (restN 90 [1,2,3,4,5,8,10,51,52,53,67,68,69]) { odQ k d nn s c ob i j z a cp [] with tmps:=(((odQ k d nn s c ob i j z a cp []).tmps.set 71 (.val p)).set 72 (.val (.int .u8 v))).set 10 (.val (.int .u8 v)) } = odQ k d nn s c ob i j z a cp [(10,.val (.int .u8 v))]:=by
      rcases to7 hi with rfl | rfl | rfl | rfl | rfl | rfl | rfl
      · exact od_J_0 ..
      · exact od_J_1 ..
      · exact od_J_2 ..
      · exact od_J_3 ..
      · exact od_J_4 ..
      · exact od_J_5 ..
      · exact od_J_6 ..
    rw [← e]
    exact dropSt_wk _ _ _,Nat.le_refl _,Nat.le_refl _⟩
  hT j z a cp:=gRun_runs (E:={ gam:=gamOr F }) hG (keep:=OdK) (ts:=[1,2,3,4,5,8,51,52,53,67,68,69,70]) (by
    rcases to7 hi with rfl | rfl | rfl | rfl | rfl | rfl | rfl
    · exact od_T_0 ..
    · exact od_T_1 ..
    · exact od_T_2 ..
    · exact od_T_3 ..
    · exact od_T_4 ..
    · exact od_T_5 ..
    · exact od_T_6 ..)
  hY j z a cp:=gRun_runs (E:={ gam:=gamOr F }) hG (keep:=OdK) (ts:=[1,2,3,4,5,8,51,52,53,67,68,69]) (by
    rcases to7 hi with rfl | rfl | rfl | rfl | rfl | rfl | rfl
    · exact od_Y_0 ..
    · exact od_Y_1 ..
    · exact od_Y_2 ..
    · exact od_Y_3 ..
    · exact od_Y_4 ..
    · exact od_Y_5 ..
    · exact od_Y_6 ..)
  hX j z a cp:=gRun_runs (E:={ gam:=gamOr F }) hG (keep:=OdK) (ts:=[1,2,3,4,5,51,52,53]) (by
    rcases to7 hi with rfl | rfl | rfl | rfl | rfl | rfl | rfl
    · exact od_Z_0 ..
    · exact od_Z_1 ..
    · exact od_Z_2 ..
    · exact od_Z_3 ..
    · exact od_Z_4 ..
    · exact od_Z_5 ..
    · exact od_Z_6 ..)
  hB j z a cp v:=gRun_runs (E:={ gam:=gamOr F }) hG (keep:=OdK) (ts:=[1,2,3,4,5,8,51,52,53,67,68,69]) (by
    rcases to7 hi with rfl | rfl | rfl | rfl | rfl | rfl | rfl
    · exact od_B_0 ..
    · exact od_B_1 ..
    · exact od_B_2 ..
    · exact od_B_3 ..
    · exact od_B_4 ..
    · exact od_B_5 ..
    · exact od_B_6 ..)
  hC j z a cp hj:=by
    have e : IntKind.i64.wrap ((j : Int) + 1) = ((j + 1 : Nat) : Int):=by rw [wrapM]; omega
    have h : odRun F odR18 (odQ k d nn s c ob i j z a cp []) OdK [1,2,3,4,5,8,51,52,53,67,68,69] = some (.normal,odQ k d nn s c ob i (IntKind.i64.wrap (j + 1)) z a cp []):=by
      rcases to7 hi with rfl | rfl | rfl | rfl | rfl | rfl | rfl
      · exact od_C_0 ..
      · exact od_C_1 ..
      · exact od_C_2 ..
      · exact od_C_3 ..
      · exact od_C_4 ..
      · exact od_C_5 ..
      · exact od_C_6 ..
    rw [e] at h
    exact gRun_runs (E:={ gam:=gamOr F }) hG h
omit hG in
theorem od_b {i : Nat} (hi : i < 7) (hd : 58 ≤ d.size) : opsRun Tryz.prog (callN Tryz.prog { gam:=gamOr F } 4 (Bool × St)) (isSum (gamOr F)) 90 odO14 (odO14.toList.take 9) (odP k d nn s c ob i [(7,.val (.int .i64 i)),(8,.ptr oN3 (2 + i))]) [] (endOps OdK (restN 90 [1,2,3,4,5,8,51,52,53,66])) =
    some (true,odP k d nn s c ob i [(8,.ptr oN3 (2 + i)),(66,.val (.string (d.extract (2 + 8 * i) (10 + 8 * i))))]):=by
  rcases to7 hi with rfl | rfl | rfl | rfl | rfl | rfl | rfl
  · have h:=od_b_0 F k d nn s c ob
    rw [decide_eq_true (by omega),cond_true] at h
    exact h
  · have h:=od_b_1 F k d nn s c ob
    rw [decide_eq_true (by omega),cond_true] at h
    exact h
  · have h:=od_b_2 F k d nn s c ob
    rw [decide_eq_true (by omega),cond_true] at h
    exact h
  · have h:=od_b_3 F k d nn s c ob
    rw [decide_eq_true (by omega),cond_true] at h
    exact h
  · have h:=od_b_4 F k d nn s c ob
    rw [decide_eq_true (by omega),cond_true] at h
    exact h
  · have h:=od_b_5 F k d nn s c ob
    rw [decide_eq_true (by omega),cond_true] at h
    exact h
  · have h:=od_b_6 F k d nn s c ob
    rw [decide_eq_true (by omega),cond_true] at h
    exact h
omit hG in
theorem od_c {i : Nat} (hi : i < 7) (str : ByteArray) (ad : Addr) (cp : Nat) : opsRun Tryz.prog (callN Tryz.prog { gam:=gamOr F } 4 (Bool × St)) (isSum (gamOr F)) 90 odO14 (odO14.toList.drop 10) { odP k d nn s c ob i [(8,.ptr oN3 (2 + i)),(66,.val (.string str))] with tmps:=(odP k d nn s c ob i [(8,.ptr oN3 (2 + i)),(66,.val (.string str))]).tmps.set 67 (.val (.slice (some ad) 8 cp)) } [] (endOps OdK (restN 90 [1,2,3,4,5,8,51,52,53,67,68,69])) =
    some (true,odQ k d nn s c ob i 0 (getO ob i) (some ad) cp []):=by
  rcases to7 hi with rfl | rfl | rfl | rfl | rfl | rfl | rfl
  · exact od_c_0 ..
  · exact od_c_1 ..
  · exact od_c_2 ..
  · exact od_c_3 ..
  · exact od_c_4 ..
  · exact od_c_5 ..
  · exact od_c_6 ..
def ordR (d : ByteArray) (i : Nat) (ob : Orb) : Orb:=setO ob i ((d.extract (2 + 8 * i) (10 + 8 * i)).data.toList.foldl (fun z b=>tkF z b.toNat) (getO ob i))
theorem od_round {i : Nat} (hi : i < 7) (hd : 58 ≤ d.size) : RunsTo Tryz.prog 90 odOB (odP k d nn s c ob i []) .normal (odP k d nn s c (ordR d i ob) (i + 1) []):=by
  have ht : odRun F odR12 (odP k d nn s c ob i []) OdK [1,2,3,4,5,51,52,53,54] = some (.normal,odP k d nn s c ob i [(54,.val (.bool true))]):=by
    rcases to7 hi with rfl | rfl | rfl | rfl | rfl | rfl | rfl
    · exact od_t_0 ..
    · exact od_t_1 ..
    · exact od_t_2 ..
    · exact od_t_3 ..
    · exact od_t_4 ..
    · exact od_t_5 ..
    · exact od_t_6 ..
  have hx : odRun F odXc (odP k d nn s c ob i [(54,.val (.bool true))]) OdK [1,2,3,4,5,51,52,53] = some (.normal,odP k d nn s c ob i []):=by
    rcases to7 hi with rfl | rfl | rfl | rfl | rfl | rfl | rfl
    · exact od_tc_0 ..
    · exact od_tc_1 ..
    · exact od_tc_2 ..
    · exact od_tc_3 ..
    · exact od_tc_4 ..
    · exact od_tc_5 ..
    · exact od_tc_6 ..
  have ha : odRun F odR13 (odP k d nn s c ob i []) OdK [1,2,3,4,5,7,8,51,52,53] = some (.normal,odP k d nn s c ob i [(7,.val (.int .i64 i)),(8,.ptr oN3 (2 + i))]):=by
    rcases to7 hi with rfl | rfl | rfl | rfl | rfl | rfl | rfl
    · exact od_a_0 ..
    · exact od_a_1 ..
    · exact od_a_2 ..
    · exact od_a_3 ..
    · exact od_a_4 ..
    · exact od_a_5 ..
    · exact od_a_6 ..
  have hd2 : ∀ ob',odRun F odR19 (odP k d nn s c ob' i []) OdK [1,2,3,4,5,51,52,53] = some (.normal,odP k d nn s c ob' (i + 1) []):=by
    intro ob'
    rcases to7 hi with rfl | rfl | rfl | rfl | rfl | rfl | rfl
    · exact od_d_0 ..
    · exact od_d_1 ..
    · exact od_d_2 ..
    · exact od_d_3 ..
    · exact od_d_4 ..
    · exact od_d_5 ..
    · exact od_d_6 ..
  rw [odOB_is]
  refine .seq (gRun_runs (E:={ gam:=gamOr F }) hG ht) (.seq (gRun_runs (E:={ gam:=gamOr F }) hG hx) (.seq (.block (.seq (gRun_runs (E:={ gam:=gamOr F }) hG ha) ?_) (.inl rfl)) (gRun_runs (E:={ gam:=gamOr F }) hG (hd2 _))))
  intro w0 own σ0 lo0 hi0 act w hst Q hQ
  have hsz : (d.extract (2 + 8 * i) (10 + 8 * i)).size = 8:=by rw [ByteArray.size_extract]; omega
  refine wp_seq (wp_region ?_)
  rw [od14_n]
  refine ops_fit (callN_ok (E:={ gam:=gamOr F }) hG 4 _) OdK _ (od_b (F:=F) k d nn s c ob hi hd) (fun _ _ hj=>take_at hj) hst _ fun a1 w1 h1=>?_
  refine conv_else od14_9 (by omega) (odP_len ..) h1 (str:=d.extract (2 + 8 * i) (10 + 8 * i)) rfl v9 v38 zv5 _ fun a2 w2 own1 σ1 r cp hr ho hcell _ h2 back=>?_
  rw [hsz] at h2 hcell
  refine ops_fit (callN_ok (E:={ gam:=gamOr F }) hG 4 _) OdK _ (od_c (F:=F) k d nn s c ob hi _ ⟨r,0,none⟩ cp) (fun _ _ hj=>drop_at hj) h2 [] fun a3 w3 h3=>?_
  refine BytesLoop.run (odLoop_ok hG k d nn s c ob hi) (l:=(d.extract (2 + 8 * i) (10 + 8 * i)).data.toList) hsz hr ho hcell (getO ob i) h3 fun a4 w4 h4=>?_
  exact hQ a4 w4 (back _ _ _ h4)
end
end Go.Ab
set_option linter.unusedSimpArgs false
namespace Go.Ab
open Go Go.Proofs
theorem od_res0 (k : Int) (d : ByteArray) (e : Int) : resA Tryz.prog (gSt 90 (odT0 ++ [(3,.val (.int .i64 e))]) [(4096,fRow k d),(oN1,oRow odr0)] oN2) Tryz.f211.results.toList = some [.val (Cod.enc odr0),.val (.int .i64 e)]:=by kernel_rfl
theorem od_res1 (k : Int) (d : ByteArray) (e : Int) (nn o : Odr) (lo : Nat) : resA Tryz.prog (gSt 90 (odT0 ++ [(3,.val (.int .i64 e)),(4,.ptr oN2 0),(5,.ptr oN3 0)]) [(4096,fRow k d),(oN1,oRow nn),(oN2,oRow nn),(oN3,oRow o)] lo) Tryz.f211.results.toList = some [.val (Cod.enc nn),.val (.int .i64 e)]:=by kernel_rfl
theorem od_resZ (o : Odr) (e : Int) (lo : Nat) : resA Tryz.prog (odZ o e lo) Tryz.f211.results.toList = some [.val (Cod.enc o),.val (.int .i64 e)]:=by kernel_rfl
def odNn (d : ByteArray) : Odr:=⟨IntKind.i64.wrap (byA d 0),0,orb0⟩
def odCd (d : ByteArray) : Int:=IntKind.i64.wrap (byA d 1)
def odOb (d : ByteArray) : Orb:=iterF (ordR d) 0 7 orb0
def ordO (F : OdOps) (p : Fr × Unit) : Two Odr Int :=
  bif p.1.kind != 16 then ⟨odr0,1⟩ else bif decide ((p.1.data.size : Int) < 2) then ⟨odr0,1⟩ else
  bif F.lo (odCd p.1.data,()) == 0 then ⟨odNn p.1.data,2⟩ else bif F.lo (odCd p.1.data,()) != (p.1.data.size : Int) then ⟨odNn p.1.data,1⟩ else
  bif odCd p.1.data == 3 then bif !F.rt (odOb p.1.data,()) then ⟨odNn p.1.data,3⟩ else ⟨⟨(odNn p.1.data).seq,odCd p.1.data,odOb p.1.data⟩,0⟩ else ⟨⟨(odNn p.1.data).seq,odCd p.1.data,orb0⟩,0⟩
section
variable {F : OdOps} (hG : GamOk Tryz.prog (gamOr F)) (hF : F.lo (3,()) = 58) (k : Int) (d : ByteArray)
include hG
theorem od_loop (nn : Odr) (s c : Int) (hd : 58 ≤ d.size) : RunsTo Tryz.prog 90 (.block 1 (.loop odOB)) (odP k d nn s c orb0 0 []) .normal { odS k d nn ⟨s,c,odOb d⟩ [] with lo:=oN5 }:=by
  refine RunsTo.rounds (id:=1) (c:=odOB) 7 (fun i ob=>odP k d nn s c ob i []) (fun ob=>{ odS k d nn ⟨s,c,ob⟩ [] with lo:=oN5 }) (ordR d) (fun i ob hi=>od_round hG k d nn s c ob hi hd) (fun ob=>?_) orb0
  rw [odOB_is]
  exact .seq (gRun_runs (E:={ gam:=gamOr F }) hG (od_t_7 F k d nn s c ob)) (RunsTo.seqX (gRun_runs (E:={ gam:=gamOr F }) hG (od_tc_7 F k d nn s c ob)))
omit hG in
theorem RunsTo.condT {P : Program} {N : Nat} {t : Nat} {c e : Code} {s s' : St} {x : Ex} (ht : s.tmps[t]? = some (.val (.bool true))) (h : RunsTo P N c s x s') : RunsTo P N (.cond (.tmp t) c e) s x s':=fun w0 own σ0 lo0 hi0 a w hst Q hQ=>wp_cond_true (hst.eval ht) (h w0 own σ0 lo0 hi0 a w hst Q hQ)
omit hG in
theorem RunsTo.condF {P : Program} {N : Nat} {t : Nat} {c e : Code} {s s' : St} {x : Ex} (ht : s.tmps[t]? = some (.val (.bool false))) (h : RunsTo P N e s x s') : RunsTo P N (.cond (.tmp t) c e) s x s':=fun w0 own σ0 lo0 hi0 a w hst Q hQ=>wp_cond_false (hst.eval ht) (h w0 own σ0 lo0 hi0 a w hst Q hQ)
omit hG in
theorem od_weak (nn o : Odr) (v : Value) : dropSt [4096,oN1,oN2,oN3] (restN 90 [1,2,3,4,5]) (odS k d nn o [(49,.val v)]) = odS k d nn o []:=by kernel_rfl
include hF in
theorem od_all : ∃ s',RunsTo Tryz.prog 90 (.seq (odL 0) (.seq (odL 1) (.seq (odL 2) (.seq (odL 3) (.seq (odL 4) (.seq (odL 5) (odR 6))))))) (startS 90 [.val (Cod.enc (Fr.mk k d))] []) .ret s' ∧ resA Tryz.prog s' Tryz.f211.results.toList = some [.val (Cod.enc (ordO F (⟨k,d⟩,())).a),.val (.int .i64 (ordO F (⟨k,d⟩,())).b)]:=by
  have h0:=gRun_runs (E:={ gam:=gamOr F }) hG (od_q0 F k d)
  have h1:=od_q1 F k d
  unfold ordO
  dsimp only
  cases c1 : (k != 16) with
  | true =>
    rw [c1] at h1
    exact ⟨_,.seq h0 (RunsTo.seqR (gRun_runs (E:={ gam:=gamOr F }) hG h1)),od_res0 ..⟩
  | false =>
    rw [c1,cond_false] at h1
    cases c2 : decide ((d.size : Int) < 2) with
    | true =>
      rw [c2] at h1
      exact ⟨_,.seq h0 (RunsTo.seqR (gRun_runs (E:={ gam:=gamOr F }) hG h1)),od_res0 ..⟩
    | false =>
      rw [c2] at h1
      have hs : ¬ (d.size : Int) < 2:=of_decide_eq_false c2
      have h2:=od_q2 F k d
      rw [decide_eq_true (by omega),cond_true] at h2
      have h3:=od_q3 F k d (odNn d)
      rw [decide_eq_true (by omega),cond_true] at h3
      have h4:=od_q4 F k d (odNn d) ⟨(odNn d).seq,odCd d,orb0⟩
      have pre : ∀ {s'},RunsTo Tryz.prog 90 (.seq (odL 4) (.seq (odL 5) (odR 6))) (odS k d (odNn d) ⟨(odNn d).seq,odCd d,orb0⟩ []) .ret s'→RunsTo Tryz.prog 90 (.seq (odL 0) (.seq (odL 1) (.seq (odL 2) (.seq (odL 3) (.seq (odL 4) (.seq (odL 5) (odR 6))))))) (startS 90 [.val (Cod.enc (Fr.mk k d))] []) .ret s':=fun h =>
        .seq h0 (.seq (gRun_runs (E:={ gam:=gamOr F }) hG h1) (.seq (gRun_runs (E:={ gam:=gamOr F }) hG h2) (.seq (gRun_runs (E:={ gam:=gamOr F }) hG h3) h)))
      simp only [cond_false]
      dsimp only at h4
      cases c3 : F.lo (odCd d,()) == 0 with
      | true =>
        rw [c3] at h4
        exact ⟨_,pre (RunsTo.seqR (gRun_runs (E:={ gam:=gamOr F }) hG h4)),od_res1 ..⟩
      | false =>
        rw [c3,cond_false] at h4
        simp only [cond_false]
        cases c4 : F.lo (odCd d,()) != (d.size : Int) with
        | true =>
          rw [c4] at h4
          exact ⟨_,pre (RunsTo.seqR (gRun_runs (E:={ gam:=gamOr F }) hG h4)),od_res1 ..⟩
        | false =>
          rw [c4] at h4
          have h10:=od_c10 F k d (odNn d) ⟨(odNn d).seq,odCd d,orb0⟩
          simp only [cond_false]
          cases c5 : odCd d == 3 with
          | false =>
            have c5' : ((⟨(odNn d).seq,odCd d,orb0⟩ : Odr).code == 3) = false:=c5
            rw [c5'] at h10
            refine ⟨_,pre (.seq (gRun_runs (E:={ gam:=gamOr F }) hG h4) (.seq ?_ (gRun_runs (E:={ gam:=gamOr F }) hG (od_q6 F k d (odNn d) ⟨(odNn d).seq,odCd d,orb0⟩)))),od_resZ ..⟩
            rw [od5_is]
            refine .seq (gRun_runs (E:={ gam:=gamOr F }) hG h10) (RunsTo.condF rfl fun w0 own σ0 lo0 hi0 a w hst Q hQ=>wp_skip (hQ a w ?_))
            refine hst.weak ?_ (Nat.le_refl _) (Nat.le_refl _)
            rw [← od_weak k d (odNn d) _ (.bool false)]
            exact dropSt_wk _ _ _
          | true =>
            have e3 : odCd d = 3:=by simpa using c5
            have hsz : 58 ≤ d.size:=by
              rw [e3,hF] at c4
              simp at c4
              omega
            have c5' : ((⟨(odNn d).seq,odCd d,orb0⟩ : Odr).code == 3) = true:=c5
            rw [c5'] at h10
            have h20:=od_e F k d (odNn d) (odNn d).seq (odCd d) (odOb d)
            have head : ∀ {x s'},RunsTo Tryz.prog 90 odR20 { odS k d (odNn d) ⟨(odNn d).seq,odCd d,odOb d⟩ [] with lo:=oN5 } x s'→RunsTo Tryz.prog 90 (odL 5) (odS k d (odNn d) ⟨(odNn d).seq,odCd d,orb0⟩ []) x s':=by
              intro x s' h
              rw [od5_is]
              exact .seq (gRun_runs (E:={ gam:=gamOr F }) hG h10) (RunsTo.condT rfl (.seq (.seq (gRun_runs (E:={ gam:=gamOr F }) hG (od_c11 F k d (odNn d) (odNn d).seq (odCd d) orb0)) (od_loop hG k d (odNn d) (odNn d).seq (odCd d) hsz)) h))
            simp only [cond_true]
            cases c6 : F.rt (odOb d,()) with
            | false =>
              rw [c6] at h20
              exact ⟨_,pre (.seq (gRun_runs (E:={ gam:=gamOr F }) hG h4) (RunsTo.seqR (head (gRun_runs (E:={ gam:=gamOr F }) hG h20)))),od_res1 ..⟩
            | true =>
              rw [c6] at h20
              exact ⟨_,pre (.seq (gRun_runs (E:={ gam:=gamOr F }) hG h4) (.seq (head (gRun_runs (E:={ gam:=gamOr F }) hG h20)) (gRun_runs (E:={ gam:=gamOr F }) hG (od_q6' F k d (odNn d) ⟨(odNn d).seq,odCd d,odOb d⟩)))),od_resZ ..⟩
end
def longV (p : Int × Unit) : Int:=bif p.1 == 1 then 2 else bif p.1 == 2 then 2 else bif p.1 == 4 then 2 else bif p.1 == 3 then 58 else 0
theorem long242 (k : Int) : fnSum Tryz.prog { gam:=[] } [] 20 242 [.val (.int .i64 k)] [] = bif k == 1 then some (.val (.int .i64 2),[]) else bif k == 2 then some (.val (.int .i64 2),[]) else bif k == 4 then some (.val (.int .i64 2),[]) else bif k == 3 then some (.val (.int .i64 58),[]) else some (.val (.int .i64 0),[]):=by kernel_rfl
theorem okLong : SumOk Tryz.prog 242 (S0 longV):=S0_ok (E:={ gam:=[] }) GamOk.nil 20 fun a=>by
  refine (long242 a.1).trans ?_
  unfold longV
  cases a.1 == 1 <;> cases a.1 == 2 <;> cases a.1 == 4 <;> cases a.1 == 3 <;> rfl
def OD : OdOps:={ lo:=longV,rt:=fun p=>orbRight p.1 }
theorem gamOD : GamOk Tryz.prog (gamOr OD):=.cons okLong (.cons okRight .nil)
def ordV : Fr × Unit→Two Odr Int:=ordO OD
theorem okOrd : SumOk Tryz.prog 211 (S0 ordV):=by
  intro args cs r cs' hs
  obtain ⟨⟨⟨k,d⟩,_⟩,rfl,rfl,rfl,rfl⟩:=S0_sel hs
  obtain ⟨s',h1,h2⟩:=od_all gamOD rfl k d
  exact sum_runs f211_is od_is od_N (by show 1 ≤ 90; omega) (by simp) rfl rfl rfl (.inr rfl) h1 h2 rfl rfl (fun _ _ h=>by simp at h) rfl rfl
def orderX (x : CX) (a : Fr × Unit) : CX:=orderO rejX x (ordV a)
theorem okOrderX : SumOk Tryz.prog 166 (SM (fun _ _=>true) fun x (a : Fr × Unit)=>(unitV,orderX x a)):=okOrder (.cons okReject (.cons okOrd .nil))
end Go.Ab
set_option linter.unusedSimpArgs false
namespace Go.Ab
open Go Go.Proofs
section
variable (F : RdOps) (z : Int) (d : ByteArray) (c0 c1 c2 c3 c4 c5 c6 c7 c8 c9 ca cb : UInt8) (t : RdT)
noncomputable abbrev rdCut (F : RdOps) (s : St) : Option (Ex × St):=gCut Tryz.prog { gam:=gamRd F } 165 rdLB s rN4 [4096,rN1,rN2,rN3] [1,2,3,5,8,9,10,11,60]
def ds6 : ByteArray:=⟨#[c0,c1,c2,c3,c4,c5]⟩
def ds12 : ByteArray:=⟨#[c0,c1,c2,c3,c4,c5,c6,c7,c8,c9,ca,cb]⟩
def rdI1 (k z : Int) (d ds : ByteArray) (i : Nat) (t : RdT) : St:=rdJ k d z ds t [(60,.val (.int .i64 i))]
def gyT (z : Int) (d ds : ByteArray) (i : Nat) (t : RdT) : Option (Ex × St):=bif t.ok then bif decide (gyN ds i ≤ 30000) then some (.normal,rdI1 1 z d ds (i + 1) (rdG ds i t (decide (gyN ds i ≥ -30000)))) else some (.normal,rdI1 1 z d ds (i + 1) (rdG ds i t false)) else some (.normal,rdI1 1 z d ds (i + 1) (rdG ds i t false))
def suT (z : Int) (d ds : ByteArray) (i : Nat) (t : RdT) : Option (Ex × St):=bif t.lit then some (.normal,rdI1 2 z d ds (i + 1) (rdU ds i t true)) else some (.normal,rdI1 2 z d ds (i + 1) (rdU ds i t (suB ds i)))
theorem rd_g0 : rdCut F (rdI1 1 z d (ds6 c0 c1 c2 c3 c4 c5) 0 t) = gyT z d (ds6 c0 c1 c2 c3 c4 c5) 0 t:=by kernel_rfl
theorem rd_g1 : rdCut F (rdI1 1 z d (ds6 c0 c1 c2 c3 c4 c5) 1 t) = gyT z d (ds6 c0 c1 c2 c3 c4 c5) 1 t:=by kernel_rfl
theorem rd_g2 : rdCut F (rdI1 1 z d (ds6 c0 c1 c2 c3 c4 c5) 2 t) = gyT z d (ds6 c0 c1 c2 c3 c4 c5) 2 t:=by kernel_rfl
theorem rd_m0 : rdCut F (rdI1 3 z d (ds6 c0 c1 c2 c3 c4 c5) 0 t) = some (.normal,rdI1 3 z d (ds6 c0 c1 c2 c3 c4 c5) 1 (rdM F (ds6 c0 c1 c2 c3 c4 c5) 0 t)):=by kernel_rfl
theorem rd_m1 : rdCut F (rdI1 3 z d (ds6 c0 c1 c2 c3 c4 c5) 1 t) = some (.normal,rdI1 3 z d (ds6 c0 c1 c2 c3 c4 c5) 2 (rdM F (ds6 c0 c1 c2 c3 c4 c5) 1 t)):=by kernel_rfl
theorem rd_m2 : rdCut F (rdI1 3 z d (ds6 c0 c1 c2 c3 c4 c5) 2 t) = some (.normal,rdI1 3 z d (ds6 c0 c1 c2 c3 c4 c5) 3 (rdM F (ds6 c0 c1 c2 c3 c4 c5) 2 t)):=by kernel_rfl
theorem rd_s0 : rdCut F (rdI1 2 z d (ds12 c0 c1 c2 c3 c4 c5 c6 c7 c8 c9 ca cb) 0 t) = suT z d (ds12 c0 c1 c2 c3 c4 c5 c6 c7 c8 c9 ca cb) 0 t:=by kernel_rfl
theorem rd_s1 : rdCut F (rdI1 2 z d (ds12 c0 c1 c2 c3 c4 c5 c6 c7 c8 c9 ca cb) 1 t) = suT z d (ds12 c0 c1 c2 c3 c4 c5 c6 c7 c8 c9 ca cb) 1 t:=by kernel_rfl
theorem rd_s2 : rdCut F (rdI1 2 z d (ds12 c0 c1 c2 c3 c4 c5 c6 c7 c8 c9 ca cb) 2 t) = suT z d (ds12 c0 c1 c2 c3 c4 c5 c6 c7 c8 c9 ca cb) 2 t:=by kernel_rfl
theorem rdI1_k (k : Int) (ds : ByteArray) (i : Nat) : okClean rN4 (rdI1 k z d ds i t) = true:=by kernel_rfl
end
end Go.Ab
set_option linter.unusedSimpArgs false
namespace Go.Ab
open Go Go.Proofs
def wordsV (p : Int × Unit) : Int:=bif p.1 == 1 then 3 else bif p.1 == 3 then 3 else bif p.1 == 2 then 6 else 0
theorem words209 (k : Int) : fnSum Tryz.prog { gam:=[] } [] 20 209 [.val (.int .i64 k)] [] = bif k == 1 then some (.val (.int .i64 3),[]) else bif k == 3 then some (.val (.int .i64 3),[]) else bif k == 2 then some (.val (.int .i64 6),[]) else some (.val (.int .i64 0),[]):=by kernel_rfl
theorem okWords : SumOk Tryz.prog 209 (S0 wordsV):=S0_ok (E:={ gam:=[] }) GamOk.nil 20 fun a=>by
  refine (words209 a.1).trans ?_
  unfold wordsV
  cases a.1 == 1 <;> cases a.1 == 3 <;> cases a.1 == 2 <;> rfl
theorem ba6 (s : ByteArray) (h : s.size = 6) : ∃ c0 c1 c2 c3 c4 c5,s = ds6 c0 c1 c2 c3 c4 c5:=by
  obtain ⟨⟨l⟩⟩:=s
  match l,h with
  | [a,b,c,d,e,f],_=>exact ⟨a,b,c,d,e,f,rfl⟩
theorem ba12 (s : ByteArray) (h : s.size = 12) : ∃ c0 c1 c2 c3 c4 c5 c6 c7 c8 c9 ca cb,s = ds12 c0 c1 c2 c3 c4 c5 c6 c7 c8 c9 ca cb:=by
  obtain ⟨⟨l⟩⟩:=s
  match l,h with
  | [a,b,c,d,e,f,a',b',c',d',e',f'],_=>exact ⟨a,b,c,d,e,f,a',b',c',d',e',f',rfl⟩
def gyF (ds : ByteArray) (i : Nat) (t : RdT) : RdT:=rdG ds i t (bif t.ok then bif decide (gyN ds i ≤ 30000) then decide (gyN ds i ≥ -30000) else false else false)
def suF (ds : ByteArray) (i : Nat) (t : RdT) : RdT:=rdU ds i t (bif t.lit then true else suB ds i)
theorem gyT_eq (z : Int) (d ds : ByteArray) (i : Nat) (t : RdT) : gyT z d ds i t = some (.normal,rdI1 1 z d ds (i + 1) (gyF ds i t)):=by
  unfold gyT gyF
  cases t.ok
  · rfl
  · cases decide (gyN ds i ≤ 30000) <;> rfl
theorem suT_eq (z : Int) (d ds : ByteArray) (i : Nat) (t : RdT) : suT z d ds i t = some (.normal,rdI1 2 z d ds (i + 1) (suF ds i t)):=by
  unfold suT suF
  cases t.lit <;> rfl
def rdRo (F : RdOps) (k : Int) (ds : ByteArray) (i : Nat) (t : RdT) : RdT:=bif k == 1 then gyF ds i t else bif k == 2 then suF ds i t else rdM F ds i t
def rdEn (F : RdOps) (k : Int) (t : RdT) : RdT:=bif k == 1 then t else
  bif k == 2 then ⟨(F.vu t.fl (t.v,())).1,bif t.ok then bif t.lit then !(F.vu t.fl (t.v,())).2 else false else false,t.lit,(F.vu t.fl (t.v,())).2⟩ else
  ⟨t.v,bif t.ok then bif decide ((F.vn t.fl (t.v,())).1 ≥ 1099511627776) then decide ((F.vn t.fl (t.v,())).1 ≤ 131941395333120) else false else false,t.lit,(F.vn t.fl (t.v,())).2⟩
def rdT0 (F : RdOps) (z : Int) : RdT:=⟨⟨0,0,0⟩,F.rt (z,()),false,false⟩
def rdT4 (F : RdOps) (k : Int) (d : ByteArray) : RdT:=rdEn F k (iterF (rdRo F k (d.extract 6 d.size)) 0 3 (rdT0 F (tickV d)))
def rdBad (F : RdOps) (k : Int) (d : ByteArray) : Bool:=bif F.wd (k,()) == 0 then true else (d.size : Int) != IntKind.i64.wrap (6 + IntKind.i64.wrap (2 * F.wd (k,())))
def readO (F : RdOps) (p : Fr × Unit) : Two Rdg Bool:=bif rdBad F p.1.kind p.1.data then ⟨⟨0,0,⟨0,0,0⟩⟩,false⟩ else bif !(rdT4 F p.1.kind p.1.data).ok then ⟨⟨0,0,⟨0,0,0⟩⟩,false⟩ else ⟨⟨p.1.kind,tickV p.1.data,(rdT4 F p.1.kind p.1.data).v⟩,true⟩
theorem rd_resS (k : Int) (d : ByteArray) : resA Tryz.prog (rdS k d []) Tryz.f164.results.toList = some [.val (Cod.enc (Rdg.mk 0 0 ⟨0,0,0⟩)),.val (.bool false)]:=by kernel_rfl
theorem rd_resZ (r : Rdg) (b : Bool) (lo : Nat) : resA Tryz.prog (rdZ r b lo) Tryz.f164.results.toList = some [.val (Cod.enc r),.val (.bool b)]:=by kernel_rfl
section
variable {F : RdOps} (hG : GamOk Tryz.prog (gamRd F)) (k : Int) (d : ByteArray)
include hG
theorem rd_rounds (z : Int) (ds : ByteArray) (hk : (k = 1 ∧ ds.size = 6) ∨ (k = 3 ∧ ds.size = 6) ∨ (k = 2 ∧ ds.size = 12)) (t : RdT) : RunsTo Tryz.prog 165 (rdL 9) (rdJ k d z ds t []) .normal (rdJ k d z ds (iterF (rdRo F k ds) 0 3 t) []):=by
  rw [rd9_is]
  refine .seq (gRun_runs (E:={ gam:=gamRd F }) hG (rd_q9 F k z d ds t)) ?_
  refine RunsTo.rounds (id:=2) (c:=rdLB) 3 (fun i t=>rdI1 k z d ds i t) (fun t=>rdJ k d z ds t []) (rdRo F k ds) (fun i t hi=>?_) (fun t=>gRun_runs (E:={ gam:=gamRd F }) hG (rd_qX F k z d ds t)) t
  have go : ∀ {t2 : RdT},rdCut F (rdI1 k z d ds i t) = some (.normal,rdI1 k z d ds (i + 1) t2)→RunsTo Tryz.prog 165 rdLB (rdI1 k z d ds i t) .normal (rdI1 k z d ds (i + 1) t2):=fun h=>gCut_runs (E:={ gam:=gamRd F }) hG h rfl (rdI1_k ..) rfl
  have h3 : i = 0 ∨ i = 1 ∨ i = 2:=by omega
  rcases hk with ⟨rfl,hs⟩ | ⟨rfl,hs⟩ | ⟨rfl,hs⟩
  · obtain ⟨c0,c1,c2,c3,c4,c5,rfl⟩:=ba6 ds hs
    rcases h3 with rfl | rfl | rfl
    · exact go ((rd_g0 F z d c0 c1 c2 c3 c4 c5 t).trans (gyT_eq ..))
    · exact go ((rd_g1 F z d c0 c1 c2 c3 c4 c5 t).trans (gyT_eq ..))
    · exact go ((rd_g2 F z d c0 c1 c2 c3 c4 c5 t).trans (gyT_eq ..))
  · obtain ⟨c0,c1,c2,c3,c4,c5,rfl⟩:=ba6 ds hs
    rcases h3 with rfl | rfl | rfl
    · exact go (rd_m0 F z d c0 c1 c2 c3 c4 c5 t)
    · exact go (rd_m1 F z d c0 c1 c2 c3 c4 c5 t)
    · exact go (rd_m2 F z d c0 c1 c2 c3 c4 c5 t)
  · obtain ⟨c0,c1,c2,c3,c4,c5,c6,c7,c8,c9,ca,cb,rfl⟩:=ba12 ds hs
    rcases h3 with rfl | rfl | rfl
    · exact go ((rd_s0 F z d c0 c1 c2 c3 c4 c5 c6 c7 c8 c9 ca cb t).trans (suT_eq ..))
    · exact go ((rd_s1 F z d c0 c1 c2 c3 c4 c5 c6 c7 c8 c9 ca cb t).trans (suT_eq ..))
    · exact go ((rd_s2 F z d c0 c1 c2 c3 c4 c5 c6 c7 c8 c9 ca cb t).trans (suT_eq ..))
theorem rd_end (z : Int) (ds : ByteArray) (hk : k = 1 ∨ k = 3 ∨ k = 2) (t : RdT) : RunsTo Tryz.prog 165 (rdL 10) (rdJ k d z ds t []) .normal (rdJ k d z ds (rdEn F k t) []):=by
  rcases hk with rfl | rfl | rfl
  · exact gRun_runs (E:={ gam:=gamRd F }) hG (rd_q10g F z d ds t)
  · refine gRun_runs (E:={ gam:=gamRd F }) hG ((rd_q10m F z d ds t).trans ?_)
    show _ = some (Ex.normal,rdJ 3 d z ds ⟨t.v,bif t.ok then bif decide ((F.vn t.fl (t.v,())).1 ≥ 1099511627776) then decide ((F.vn t.fl (t.v,())).1 ≤ 131941395333120) else false else false,t.lit,(F.vn t.fl (t.v,())).2⟩ [])
    cases t.ok
    · rfl
    · cases decide ((F.vn t.fl (t.v,())).1 ≥ 1099511627776) <;> rfl
  · refine gRun_runs (E:={ gam:=gamRd F }) hG ((rd_q10s F z d ds t).trans ?_)
    show _ = some (Ex.normal,rdJ 2 d z ds ⟨(F.vu t.fl (t.v,())).1,bif t.ok then bif t.lit then !(F.vu t.fl (t.v,())).2 else false else false,t.lit,(F.vu t.fl (t.v,())).2⟩ [])
    cases t.ok
    · rfl
    · cases t.lit <;> rfl
theorem rd_all (hb : rdBad F k d = false) (hk : (k = 1 ∧ d.size = 12) ∨ (k = 3 ∧ d.size = 12) ∨ (k = 2 ∧ d.size = 18)) :
    ∃ r b,RunsTo Tryz.prog 165 (.seq (rdL 0) (.seq (rdL 1) (.seq (rdL 2) (.seq (rdL 3) (.seq (rdL 4) (.seq (rdL 5) (.seq (rdL 6) (.seq (rdL 7) (.seq (rdL 8) (.seq (rdL 9) (.seq (rdL 10) (rdR 11)))))))))))) (startS 165 [.val (Cod.enc (Fr.mk k d))] []) .ret (rdZ r b rN4) ∧ readO F (⟨k,d⟩,()) = ⟨r,b⟩:=by
  have h6 : 6 ≤ d.size:=by omega
  have hds : (d.extract 6 d.size).size = d.size - 6:=by rw [ByteArray.size_extract]; omega
  have hq2 : rdRun F (rdL 2) (rdS k d [(4,.val (.int .i64 (F.wd (k,()))))]) [4096,rN1] [1,2,3] = some (.normal,rdS k d []):=by
    rw [rd_q2]
    unfold rdBad at hb
    revert hb
    cases F.wd (k,()) == 0
    · cases (d.size : Int) != IntKind.i64.wrap (6 + IntKind.i64.wrap (2 * F.wd (k,())))
      · intro _; rfl
      · intro h; cases h
    · intro h; cases h
  have hq5:=rd_q5 F k (tickV d) d
  rw [decide_eq_true (by omega),cond_true] at hq5
  have main : ∀ (s : St) ,rdRun F (rdR 11) (rdJ k d (tickV d) (d.extract 6 d.size) (rdT4 F k d) []) [rN1] [2,3] = some (.ret,s)→RunsTo Tryz.prog 165 (.seq (rdL 0) (.seq (rdL 1) (.seq (rdL 2) (.seq (rdL 3) (.seq (rdL 4) (.seq (rdL 5) (.seq (rdL 6) (.seq (rdL 7) (.seq (rdL 8) (.seq (rdL 9) (.seq (rdL 10) (rdR 11)))))))))))) (startS 165 [.val (Cod.enc (Fr.mk k d))] []) .ret s:=by
    intro s hs
    refine .seq (gRun_runs (E:={ gam:=gamRd F }) hG (rd_q0 F k d)) (.seq (gRun_runs (E:={ gam:=gamRd F }) hG (rd_q1 F k d)) (.seq (gRun_runs (E:={ gam:=gamRd F }) hG hq2) (.seq (gRun_runs (E:={ gam:=gamRd F }) hG (rd_q3 F k d)) (.seq (rd_p4 hG k d h6) (.seq (gRun_runs (E:={ gam:=gamRd F }) hG hq5) ?_)))))
    refine .seq (gRun_runs (E:={ gam:=gamRd F }) hG (rd_q6 F k (tickV d) d _)) (.seq (gRun_runs (E:={ gam:=gamRd F }) hG (rd_q7 F k (tickV d) d _)) (.seq (gRun_runs (E:={ gam:=gamRd F }) hG (rd_q8 F k (tickV d) d _ _)) (.seq (rd_rounds hG k d (tickV d) _ ?_ _) (.seq (rd_end hG k d (tickV d) _ ?_ _) (gRun_runs (E:={ gam:=gamRd F }) hG hs)))))
    · rcases hk with ⟨h1,h2⟩ | ⟨h1,h2⟩ | ⟨h1,h2⟩
      · exact .inl ⟨h1,by omega⟩
      · exact .inr (.inl ⟨h1,by omega⟩)
      · exact .inr (.inr ⟨h1,by omega⟩)
    · rcases hk with ⟨h1,h2⟩ | ⟨h1,h2⟩ | ⟨h1,h2⟩
      · exact .inl h1
      · exact .inr (.inl h1)
      · exact .inr (.inr h1)
  have hq:=rd_q11 F k (tickV d) d (d.extract 6 d.size) (rdT4 F k d)
  unfold readO
  dsimp only
  rw [hb]
  cases hok : (rdT4 F k d).ok with
  | true =>
    rw [hok] at hq
    exact ⟨_,_,main _ hq,rfl⟩
  | false =>
    rw [hok] at hq
    exact ⟨_,_,main _ hq,rfl⟩
theorem rd_bad (hb : rdBad F k d = true) : RunsTo Tryz.prog 165 (.seq (rdL 0) (.seq (rdL 1) (.seq (rdL 2) (.seq (rdL 3) (.seq (rdL 4) (.seq (rdL 5) (.seq (rdL 6) (.seq (rdL 7) (.seq (rdL 8) (.seq (rdL 9) (.seq (rdL 10) (rdR 11)))))))))))) (startS 165 [.val (Cod.enc (Fr.mk k d))] []) .ret (rdS k d []):=by
  have hq2 : rdRun F (rdL 2) (rdS k d [(4,.val (.int .i64 (F.wd (k,()))))]) [4096,rN1] [1,2,3] = some (.ret,rdS k d []):=by
    rw [rd_q2]
    unfold rdBad at hb
    revert hb
    cases F.wd (k,()) == 0
    · cases (d.size : Int) != IntKind.i64.wrap (6 + IntKind.i64.wrap (2 * F.wd (k,())))
      · intro h; cases h
      · intro _; rfl
    · intro _; rfl
  exact .seq (gRun_runs (E:={ gam:=gamRd F }) hG (rd_q0 F k d)) (.seq (gRun_runs (E:={ gam:=gamRd F }) hG (rd_q1 F k d)) (RunsTo.seqR (gRun_runs (E:={ gam:=gamRd F }) hG hq2)))
end
def RD : RdOps:={ wd:=wordsV,rt:=fun p=>isTick p.1,pt:=op3 fpart,vn:=vnorm opsF,vu:=vunit opsF }
theorem gamRD : GamOk Tryz.prog (gamRd RD):=.cons okWords (.cons ok40 (.cons ok116 (.cons ok66 (.cons ok68 .nil))))
def readV : Fr × Unit→Two Rdg Bool:=readO RD
theorem rd_kinds {k : Int} {d : ByteArray} (hb : rdBad RD k d = false) : (k = 1 ∧ d.size = 12) ∨ (k = 3 ∧ d.size = 12) ∨ (k = 2 ∧ d.size = 18):=by
  have hw : RD.wd (k,()) = wordsV (k,()):=rfl
  unfold rdBad at hb
  rw [hw] at hb
  by_cases h1 : k = 1
  · subst h1
    refine .inl ⟨rfl,?_⟩
    have : ((d.size : Int) != 12) = false:=hb
    simp at this
    omega
  by_cases h3 : k = 3
  · subst h3
    refine .inr (.inl ⟨rfl,?_⟩)
    have : ((d.size : Int) != 12) = false:=hb
    simp at this
    omega
  by_cases h2 : k = 2
  · subst h2
    refine .inr (.inr ⟨rfl,?_⟩)
    have : ((d.size : Int) != 18) = false:=hb
    simp at this
    omega
  · have e : wordsV (k,()) = 0:=by
      unfold wordsV
      dsimp only
      rw [beq_eq_false_iff_ne.2 h1,beq_eq_false_iff_ne.2 h3,beq_eq_false_iff_ne.2 h2]
      rfl
    rw [e] at hb
    cases hb
theorem okRead : SumOk Tryz.prog 164 (S0 readV):=by
  intro args cs r cs' hs
  obtain ⟨⟨⟨k,d⟩,_⟩,rfl,rfl,rfl,rfl⟩:=S0_sel hs
  cases hb : rdBad RD k d with
  | true =>
    have e : readV (⟨k,d⟩,()) = ⟨⟨0,0,⟨0,0,0⟩⟩,false⟩:=by unfold readV readO; dsimp only; rw [hb]; rfl
    rw [e]
    exact sum_runs f164_is rd_is rd_N (by show 1 ≤ 165; omega) (by simp) rfl rfl rfl (.inr rfl) (rd_bad gamRD k d hb) (rd_resS ..) rfl rfl (fun _ _ h=>by simp at h) rfl rfl
  | false =>
    obtain ⟨r,b,h1,h2⟩:=rd_all gamRD k d hb (rd_kinds hb)
    have e : readV (⟨k,d⟩,()) = ⟨r,b⟩:=h2
    rw [e]
    exact sum_runs f164_is rd_is rd_N (by show 1 ≤ 165; omega) (by simp) rfl rfl rfl (.inr rfl) h1 (rd_resZ ..) rfl rfl (fun _ _ h=>by simp at h) rfl rfl
end Go.Ab
set_option linter.unusedSimpArgs false
namespace Go.Ab
open Go Go.Proofs
def wrInts (t : Tl) : List Int:=[IntKind.u8.wrap (t.tk.fdiv (2 ^ 40)),IntKind.u8.wrap (t.tk.fdiv (2 ^ 32)),IntKind.u8.wrap (t.tk.fdiv (2 ^ 24)),IntKind.u8.wrap (t.tk.fdiv (2 ^ 16)),IntKind.u8.wrap (t.tk.fdiv (2 ^ 8)),IntKind.u8.wrap (t.tk.fdiv (2 ^ 0)),
  IntKind.u8.wrap t.mode,IntKind.u8.wrap t.faults,IntKind.u8.wrap t.ack,IntKind.u8.wrap t.err,IntKind.u8.wrap (t.rej.fdiv (2 ^ 8)),IntKind.u8.wrap t.rej,
  IntKind.u8.wrap (t.q.w.fdiv (2 ^ 8)),IntKind.u8.wrap t.q.w,IntKind.u8.wrap (t.q.x.fdiv (2 ^ 8)),IntKind.u8.wrap t.q.x,IntKind.u8.wrap (t.q.y.fdiv (2 ^ 8)),IntKind.u8.wrap t.q.y,IntKind.u8.wrap (t.q.z.fdiv (2 ^ 8)),IntKind.u8.wrap t.q.z,
  IntKind.u8.wrap (t.d.x.fdiv (2 ^ 8)),IntKind.u8.wrap t.d.x,IntKind.u8.wrap (t.d.y.fdiv (2 ^ 8)),IntKind.u8.wrap t.d.y,IntKind.u8.wrap (t.d.z.fdiv (2 ^ 8)),IntKind.u8.wrap t.d.z]
def wrStr (t : Tl) : ByteArray:=(wrInts t).foldl pushI ByteArray.empty
theorem write177 (rg : Tl × Unit→Bool) (t : Tl) : fnSum Tryz.prog { gam:=[(230,S0 rg)] } [] 20 177 [.val (Cod.enc t)] [] =
    bif !rg (t,()) then some (.val (Cod.enc (Two.mk (Fr.mk 0 ⟨#[]⟩) false)),[]) else some (.val (Cod.enc (Two.mk (Fr.mk 32 (wrStr t)) true)),[]):=by kernel_rfl
def writeV (p : Tl × Unit) : Two Fr Bool:=bif !tlRight p.1 then ⟨⟨0,⟨#[]⟩⟩,false⟩ else ⟨⟨32,wrStr p.1⟩,true⟩
theorem okWrite : SumOk Tryz.prog 177 (S0 writeV):=S0_ok (E:={ gam:=[(230,S0 fun (p : Tl × Unit)=>tlRight p.1)] }) (.cons okTlRight .nil) 20 fun a=>by
  refine (write177 (fun p=>tlRight p.1) a.1).trans ?_
  unfold writeV
  cases tlRight a.1 <;> rfl
end Go.Ab
set_option linter.unusedSimpArgs false
namespace Go.Ab
open Go Go.Proofs
def HR : HrOps:={ rj:=rejX,rd:=readV,fr:=freshV,od:=orderX }
theorem gamHR : GamOk Tryz.prog (hrG HR):=.cons okReject (.cons okRead (.cons okFresh (.cons okOrderX .nil)))
def ST : StOps:={ rt:=fun p=>isTick p.1,hp:=hearPre,he:=hearO HR,bp:=stepPre,bd:=stepV,lk:=lookX,fi:=filterX,pl:=planX,dp:=dipole opsF,ct:=countsV,wr:=writeV,wp:=fun p=>wrapV p.1 }
theorem gamST : GamOk Tryz.prog (gamSt ST):=.cons ok40 (.cons (okHear gamHR) (.cons ok58 (.cons okLook (.cons okFilter (.cons okPlan (.cons ok60 (.cons okCounts (.cons okWrite (.cons (S0_of_w okWrap) .nil)))))))))
def craftPre (p : StpA) : Bool:=stepPreO ST p
def craftV (p : StpA) : Two Crf ByteArray:=stepO ST p
theorem okCraft : SumOk Tryz.prog 25 (S0w craftPre craftV):=okStep gamST
end Go.Ab
set_option linter.unusedSimpArgs false
namespace Go.Ab
open Go Go.Proofs
def wrX (n : Int) (x : CX) : CX:=(x.1,{ x.2.1 with rej:=n },x.2.2)
theorem wrX_cond (n : Int) (b : Bool) (x y : CX) : wrX n (bif b then x else y) = bif b then wrX n x else wrX n y:=by cases b <;> rfl
theorem wr_lkP (F : LkOps) (n : Int) (x : CX) (fl : Bool) : lkPX F (wrX n x) fl = wrX n (lkPX F x fl):=by
  unfold lkPX
  simp only [wrX_cond]
  rfl
theorem wr_lkS (F : LkOps) (n : Int) (x : CX) (p s k : V3 × Bool) : lkSX F (wrX n x) p s k = wrX n (lkSX F x p s k):=by
  unfold lkSX
  simp only [wrX_cond,← wr_lkP]
  rfl
theorem wr_lkG (F : LkOps) (n : Int) (x : CX) : lkGX F (wrX n x) = wrX n (lkGX F x):=by
  unfold lkGX
  simp only [wrX_cond,← wr_lkS]
  rfl
theorem wr_look (n : Int) (x : CX) : lookX (wrX n x) = wrX n (lookX x):=by
  unfold lookX lookO
  simp only [wrX_cond,← wr_lkG]
  rfl
theorem wr_filtE (sp : Bool→Gs × Unit→Int × Bool) (n : Int) (x : CX) (g : Gs) (p f : Bool) : filtEX sp (wrX n x) g p f = wrX n (filtEX sp x g p f):=by
  unfold filtEX
  simp only [wrX_cond]
  rfl
theorem wr_filtM (me : Bool→Gs × P2 × P2 × Unit→GCB × Bool) (sp : Bool→Gs × Unit→Int × Bool) (n : Int) (x : CX) (m : Gs × Bool) : filtMX me sp (wrX n x) m = wrX n (filtMX me sp x m):=by
  unfold filtMX
  simp only [wrX_cond,← wr_filtE]
  rfl
theorem wr_filter (n : Int) (x : CX) : filterX (wrX n x) = wrX n (filterX x):=by
  unfold filterX filtX
  simp only [wrX_cond,← wr_filtM]
  rfl
theorem wr_plan (n : Int) (x : CX) : planX (wrX n x) = wrX n (planX x):=by
  unfold planX planO
  simp only [wrX_cond]
  rfl
theorem wr_drift (n : Int) (x : CX) : cstD ST (wrX n x) = wrX n (cstD ST x):=by
  unfold cstD
  simp only [wrX_cond]
  rfl
theorem wr_fine (n : Int) (x : CX) : cstF ST (wrX n x) = wrX n (cstF ST x):=by
  unfold cstF
  simp only [wrX_cond]
  rw [show ST.fi x = filterX x from rfl,← wr_filter]
  rfl
theorem wr_end (n tk : Int) (x : CX) : endX ST tk (wrX n x) = wrX n (endX ST tk x):=by
  unfold endX
  rw [wr_drift,show ST.lk = lookX from rfl,wr_look,wr_fine,show ST.pl = planX from rfl,wr_plan]
  rfl
theorem end_rej (tk : Int) (x : CX) : (endX ST tk x).2.1.rej = x.2.1.rej:=by
  have h:=wr_end x.2.1.rej tk x
  have e : wrX x.2.1.rej x = x:=rfl
  rw [e] at h
  rw [h]
  rfl
theorem wrap_some (f : Fr) (hk : 0 ≤ f.kind ∧ f.kind ≤ 255) (hd : f.data.size ≤ 64) : ∃ l,(wrapV f).a = bsL (165 :: l):=by
  unfold wrapV
  rw [decide_eq_false (by omega),decide_eq_false (by omega),decide_eq_false (by omega)]
  exact ⟨_,rfl⟩
theorem wrStr_size (t : Tl) : (wrStr t).size = 26:=by kernel_rfl
theorem write_some (t : Tl) : (0 ≤ (writeV (t,())).a.kind ∧ (writeV (t,())).a.kind ≤ 255) ∧ (writeV (t,())).a.data.size ≤ 64:=by
  unfold writeV
  dsimp only
  cases tlRight t
  · exact ⟨⟨by show (0 : Int) ≤ 0; decide,by show (0 : Int) ≤ 255; decide⟩,by show (0 : Nat) ≤ 64; omega⟩
  · refine ⟨⟨by show (0 : Int) ≤ 32; decide,by show (32 : Int) ≤ 255; decide⟩,?_⟩
    show (wrStr t).size ≤ 64
    rw [wrStr_size]
    omega
theorem told_some (x : CX) : ∃ l,cstT ST x = bsL (165 :: l):=by
  have h : ∀ m,∃ l,teB ST x m = bsL (165 :: l):=fun m=>wrap_some _ (write_some _).1 (write_some _).2
  unfold cstT
  cases x.2.1.plan.mode == 0
  · exact h _
  · exact h _
end Go.Ab
set_option linter.unusedSimpArgs false
namespace Go.Ab
open Go Go.Proofs
theorem aw_pre : craftPre (crf0,5,⟨#[]⟩,()) = true:=by kernel_rfl
theorem aw_on : (craftV (crf0,5,⟨#[]⟩,())).a.on = true:=by kernel_rfl
theorem aw_tk : (craftV (crf0,5,⟨#[]⟩,())).a.tk = 5:=by kernel_rfl
theorem aw_size : (craftV (crf0,5,⟨#[]⟩,())).b.size = 31:=by kernel_rfl
theorem awake23 (pre : StpA→Bool) (g : StpA→Two Crf ByteArray) : fnSum Tryz.prog { gam:=[(25,S0w pre g)] } [] 20 23 [] [] =
    bif pre (crf0,5,⟨#[]⟩,()) then bif (g (crf0,5,⟨#[]⟩,())).a.on then bif (g (crf0,5,⟨#[]⟩,())).a.tk == 5 then some (.val (.bool (((g (crf0,5,⟨#[]⟩,())).b.size : Int) == 31)),[]) else some (.val (.bool false),[]) else some (.val (.bool false),[]) else none:=by kernel_rfl
theorem okAwakeC : SumOk Tryz.prog 23 (S0 fun (_ : Unit)=>true):=S0_ok (E:={ gam:=[(25,S0w craftPre craftV)] }) (.cons okCraft .nil) 20 fun a=>by
  refine (awake23 craftPre craftV).trans ?_
  rw [aw_pre,aw_on,aw_tk,aw_size]
  rfl
end Go.Ab
