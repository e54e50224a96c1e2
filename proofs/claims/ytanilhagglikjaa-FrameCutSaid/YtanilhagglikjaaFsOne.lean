/- A part of the proofs: lemmas, no statement of their own; no condition. -/
import Derived.Test.YtanilhagglikjaaFrTwo
/- alidaderef11.Scan: its pieces. -/
namespace Go.Ab
open Go Go.Proofs
noncomputable def rC : Code := Try.f17.body.getD .skip
noncomputable def rc0 : Code := seqL rC
noncomputable def rc1 : Code := seqL (seqR rC)
noncomputable def rc2 : Code := seqL (seqR (seqR rC))
noncomputable def rc3 : Code := seqL (seqR (seqR (seqR rC)))
noncomputable def rT : Code := seqR (seqR (seqR (seqR rC)))
noncomputable def rB : Code := inB (inB (seqL rT))
noncomputable def rc22 : Code := seqR rT
noncomputable def rc4 : Code := seqL rB
noncomputable def rI : Code := inB (seqR rB)
noncomputable def rc5 : Code := seqL rI
noncomputable def rc8 : Code := seqL (seqR rI)
noncomputable def rc10 : Code := seqL (seqR (seqR rI))
noncomputable def rT11 : Code := seqR (seqR (seqR rI))
noncomputable def rc11 : Code := seqL rT11
noncomputable def rc14 : Code := seqL (seqR rT11)
noncomputable def rT16 : Code := seqR (seqR rT11)
noncomputable def rc16 : Code := seqL rT16
noncomputable def rc17 : Code := seqL (seqR rT16)
noncomputable def rO20 : Array Oper := regO (seqL (seqR (seqR rT16)))
noncomputable def rc21 : Code := seqR (seqR (seqR rT16))
theorem rC_is : Try.f17.body = some (.seq rc0 (.seq rc1 (.seq rc2 (.seq rc3 (.seq (.block 0 (.loop (.seq rc4 (.block 1 rI)))) rc22))))) := by kernel_rfl
theorem rI_is : rI = .seq rc5 (.seq rc8 (.seq rc10 (.seq rc11 (.seq rc14 (.seq rc16 (.seq rc17 (.seq (.region 20 rO20 false) rc21))))))) := by kernel_rfl
theorem rN : Try.f17.ntmps = 83 := by kernel_rfl
def rS (s : ByteArray) (a : Option Addr) (n c : Nat) (o i : Int) (l : List (Nat × Value)) : St := mkSt 83 ([0, 5, 6, 7] ++ l.map (·.1)) ([.string s, .slice a n c, .int .i64 o, .int .i64 i] ++ l.map (·.2)) [] [] [] 4096 frH frT
def rE (a : Option Addr) (n c : Nat) (o : Int) (z : ByteArray) : St := mkSt 83 [2, 3, 4] [.slice a n c, .string z, .int .i64 o] [] [] [] 4096 frH frT
def rGam (po : ByteArray × Unit → Bool) (op : OpG) : Gam := [(15, S0w po op)]
section
variable (po : ByteArray × Unit → Bool) (op : OpG) (s : ByteArray) (a : Option Addr) (n c : Nat) (o i m : Int)
theorem rr0 : frRun (rGam po op) 83 rc0 ⟨[Value.string s].map .val ++ List.replicate (83 - [Value.string s].length) (.val undef), [], 4096, frH, frT, []⟩ [] [0] = some (.normal, mkSt 83 [0] [.string s] [] [] [] 4096 frH frT) := by kernel_rfl
theorem rr1 : frRun (rGam po op) 83 rc1 (mkSt 83 [0] [.string s] [] [] [] 4096 frH frT) [] [0, 5] = some (.normal, mkSt 83 [0, 5] [.string s, .slice none 0 0] [] [] [] 4096 frH frT) := by kernel_rfl
theorem rr2 : frRun (rGam po op) 83 rc2 (mkSt 83 [0, 5] [.string s, .slice none 0 0] [] [] [] 4096 frH frT) [] [0, 5, 6] = some (.normal, mkSt 83 [0, 5, 6] [.string s, .slice none 0 0, .int .i64 0] [] [] [] 4096 frH frT) := by kernel_rfl
theorem rr3 : frRun (rGam po op) 83 rc3 (mkSt 83 [0, 5, 6] [.string s, .slice none 0 0, .int .i64 0] [] [] [] 4096 frH frT) [] [0, 5, 6, 7] = some (.normal, rS s none 0 0 0 0 []) := by kernel_rfl
theorem rr4 : frRun (rGam po op) 83 rc4 (rS s a n c o i []) [] [0, 5, 6, 7] = bif decide (i < (s.size : Int)) then some (.normal, { rS s a n c o i [] with tmps := (rS s a n c o i []).tmps }) else some (.exit 0, { rS s a n c o i [] with tmps := (rS s a n c o i []).tmps }) := by kernel_rfl
theorem rr5 : frRun (rGam po op) 83 rc5 (rS s a n c o i []) [] [0, 5, 6, 7] = bif decide (0 ≤ i ∧ i < (s.size : Int)) then bif !(byteI s i == 165) then some (.exit 1, rS s a n c (IntKind.i64.wrap (o + 1)) (IntKind.i64.wrap (i + 1)) []) else some (.normal, { rS s a n c o i [] with tmps := (rS s a n c o i []).tmps }) else none := by kernel_rfl
theorem rr8 : frRun (rGam po op) 83 rc8 (rS s a n c o i []) [] [0, 2, 3, 4, 5, 6, 7] = bif decide (IntKind.i64.wrap ((s.size : Int) - i) < 3) then bif decide (0 ≤ i ∧ i ≤ (s.size : Int) ∧ (s.size : Int) ≤ (s.size : Int)) then some (.ret, rS s a n c o i [(2, .slice a n c), (3, .string (s.extract i.toNat ((s.size : Nat) : Int).toNat)), (4, .int .i64 o)]) else none else some (.normal, { rS s a n c o i [] with tmps := (rS s a n c o i []).tmps }) := by kernel_rfl
theorem rr10 : frRun (rGam po op) 83 rc10 (rS s a n c o i []) [] [0, 5, 6, 7, 8] = bif decide (0 ≤ IntKind.i64.wrap (i + 2) ∧ IntKind.i64.wrap (i + 2) < (s.size : Int)) then some (.normal, rS s a n c o i [(8, .int .i64 (IntKind.i64.wrap (byteI s (IntKind.i64.wrap (i + 2)))))]) else none := by kernel_rfl
theorem rr11 : frRun (rGam po op) 83 rc11 (rS s a n c o i [(8, .int .i64 m)]) [] [0, 5, 6, 7, 8] = bif decide (m > 64) then some (.exit 1, { rS s a n c (IntKind.i64.wrap (o + 1)) (IntKind.i64.wrap (i + 1)) [(8, .int .i64 m)] with lo := 4096 }) else some (.normal, { rS s a n c o i [(8, .int .i64 m)] with tmps := (rS s a n c o i [(8, .int .i64 m)]).tmps }) := by kernel_rfl
theorem rr14 : frRun (rGam po op) 83 rc14 (rS s a n c o i [(8, .int .i64 m)]) [] [0, 2, 3, 4, 5, 6, 7, 8] = bif decide (IntKind.i64.wrap ((s.size : Int) - i) < IntKind.i64.wrap (m + 5)) then bif decide (0 ≤ i ∧ i ≤ (s.size : Int) ∧ (s.size : Int) ≤ (s.size : Int)) then some (.ret, rS s a n c o i [(8, .int .i64 m), (2, .slice a n c), (3, .string (s.extract i.toNat ((s.size : Nat) : Int).toNat)), (4, .int .i64 o)]) else none else some (.normal, { rS s a n c o i [(8, .int .i64 m)] with tmps := (rS s a n c o i [(8, .int .i64 m)]).tmps }) := by kernel_rfl
def rX (s : ByteArray) (a : Option Addr) (n c : Nat) (o i m : Int) (x : Two Fr Bool) : St := mkSt 83 [0, 5, 6, 7, 8, 10] [.string s, .slice a n c, .int .i64 o, .int .i64 i, .int .i64 m, .bool x.b] [(9, 4096, 0)] [(4096, 26, 2)] [.int .i64 x.a.kind, .string x.a.data] fr2 frH frT
theorem rr16 : frRun (rGam po op) 83 rc16 (rS s a n c o i [(8, .int .i64 m)]) [4096] [0, 5, 6, 7, 8, 9, 10] =
    let q := IntKind.i64.wrap (IntKind.i64.wrap (i + m) + 5)
    let cut := s.extract i.toNat q.toNat
    bif decide (0 ≤ i ∧ i ≤ q ∧ q ≤ (s.size : Int)) then bif po (cut, ()) then some (.normal, rX s a n c o i m (op (cut, ()))) else none else none := by kernel_rfl
theorem rr17 (x : Two Fr Bool) : frRun (rGam po op) 83 rc17 (rX s a n c o i m x) [4096] [0, 5, 6, 7, 8, 9, 10] = bif !x.b then some (.exit 1, { rX s a n c (IntKind.i64.wrap (o + 1)) (IntKind.i64.wrap (i + 1)) m x with lo := fr2 }) else some (.normal, { rX s a n c o i m x with tmps := (rX s a n c o i m x).tmps }) := by kernel_rfl
def rY (s : ByteArray) (a : Option Addr) (n c : Nat) (o i m : Int) (x : Fr) (l : List (Nat × Value)) : St := mkSt 83 ([0, 5, 6, 7, 8] ++ l.map (·.1)) ([.string s, .slice a n c, .int .i64 o, .int .i64 i, .int .i64 m] ++ l.map (·.2)) [(9, 4096, 0)] [(4096, 26, 2)] [.int .i64 x.kind, .string x.data] fr2 frH frT
theorem rr21 : frRun (rGam po op) 83 rc21 (rS s a n c o i [(8, .int .i64 m)]) [] [0, 5, 6, 7] = some (.normal, rS s a n c o (IntKind.i64.wrap (IntKind.i64.wrap (i + m) + 5)) []) := by kernel_rfl
theorem rr22 : frRun (rGam po op) 83 rc22 (rS s a n c o i []) [] [2, 3, 4] = some (.ret, mkSt 83 [2, 3, 4] [.slice a n c, .string ⟨#[]⟩, .int .i64 o] [] [] [] 4096 frH frT) := by kernel_rfl
theorem rg0 : sigOf rO20 0 = some (.move (.tmp 5), some 73, true) := by kernel_rfl
theorem rg1 : sigOf rO20 1 = some (.load 26 (.tmp 9), some 74, true) := by kernel_rfl
theorem rg2 : sigOf rO20 2 = some (.buildSlice 33 1 #[(0, .tmp 74)], some 75, true) := by kernel_rfl
theorem rg3 : sigOf rO20 3 = some (.call { callee := .builtin .append, args := #[.tmp 73, .tmp 75], argTypes := #[33, 33] }, some 76, true) := by kernel_rfl
theorem rg4 : sigOf rO20 4 = some (.assign (.tmp 76), some 5, true) := by kernel_rfl
theorem rgn : List.range rO20.size = [0, 1, 2, 3, 4] := by kernel_rfl
end
end Go.Ab
/- alidaderef11.Scan: a frame more in the list. -/
namespace Go.Ab
open Go Go.Proofs
theorem und26' : ∃ td, Try.prog.underlying 26 = some td ∧ isAggD td = true := by
  have := und26
  cases h : Try.prog.underlying 26 with
  | none => rw [h] at this; cases this
  | some td => rw [h] at this; exact ⟨td, rfl, by simpa using this⟩
theorem lX (s : ByteArray) (a : Option Addr) (n c : Nat) (o i m : Int) (x : Two Fr Bool) : (rX s a n c o i m x).tmps.length = 83 := by kernel_rfl
theorem hX (s : ByteArray) (a : Option Addr) (n c : Nat) (o i m : Int) (x : Two Fr Bool) : hget (rX s a n c o i m x).heap 4096 = some (.row 26 ((frCells x.a).map .val)) := by kernel_rfl
theorem wk20 (s : ByteArray) (a : Option Addr) (n c : Nat) (o i m : Int) (x : Two Fr Bool) (g : Option Addr) (n' c' : Nat) (u1 u2 u3 : Value) :
    dropSt [] (others 83 [0, 5, 6, 7, 8]) { rX s a n c o i m x with tmps := (((((rX s a n c o i m x).tmps.set 73 (.val u1)).set 74 (.val u2)).set 75 (.val u3)).set 76 (.val (.slice g n' c'))).set 5 (.val (.slice g n' c')) } = { rS s g n' c' o i [(8, .int .i64 m)] with lo := fr2 } := by kernel_rfl
theorem cl20 (s : ByteArray) (a : Option Addr) (n c : Nat) (o i m : Int) : okClean 4096 { rS s a n c o i [(8, .int .i64 m)] with lo := fr2 } = true := by kernel_rfl
theorem ct20 (s : ByteArray) (a : Option Addr) (n c : Nat) (o i m : Int) : ({ ({ rS s a n c o i [(8, .int .i64 m)] with lo := fr2 } : St) with lo := 4096, hi := frH } : St) = rS s a n c o i [(8, .int .i64 m)] := by kernel_rfl
theorem rfound {W0 wb : World} {F : Nat → Prop} {s : ByteArray} {a : Option Addr} {n c : Nat} {o i m : Int} {x : Two Fr Bool} {fs : List Fr} {act : Act} {w : World} (L : Live W0 F wb) (hst : Stand F wb 83 (rX s a n c o i m x) act w)
    (hown : wb.ownsRow W0.heap.size 26 2 (.slice a n c) n (cellsF fs)) (hF : ∀ r, (Value.slice a n c).ownBlock = some r → F r) (hn : n ≤ 1099511627776) {Q : Exit → Act → World → Prop}
    (hQ : ∀ F' wb' a' c' act' w', Live W0 F' wb' → Stand F' wb' 83 (rS s a' (n + 1) c' o i [(8, .int .i64 m)]) act' w' → wb'.ownsRow W0.heap.size 26 2 (.slice a' (n + 1) c') (n + 1) (cellsF (fs ++ [x.a])) → (∀ r, (Value.slice a' (n + 1) c').ownBlock = some r → F' r) → Q .normal act' w') :
    (Code.region 20 rO20 false).wp Try.prog Q act w := by
  obtain ⟨ti, hti, ts, tb, tz⟩ := info26
  obtain ⟨td, htd, hag⟩ := und26'
  refine wp_region ?_
  rw [rgn]
  refine move_stand rg0 (by omega) (lX ..) hst (v := .slice a n c) (hst.eval (t := 5) rfl) _ fun a1 h1 => ?_
  obtain ⟨r, h9, hrow⟩ := h1.own (t := 9) (b := 4096) (vs := frCells x.a) rfl (hX s a n c o i m x)
  refine op_here rg1 (by omega) (by rw [List.length_set]; exact lX ..) h1 (v := .agg (List.toArray (frCells x.a))) (fun o ho => ?_) _ fun a2 h2 => ?_
  · simp only [execOp, ho, Instr.loadAt, get_eval h9, Instr.sureAddr, Sem.run_bind, Sem.run_pure, Result.andThen_ok, run_loadRow htd hag hti hrow (by rw [ts]; rfl)]
  refine build_stand rg2 (by omega) (by rw [List.length_set, List.length_set]; exact lX ..) h2 (vals := [(0, .agg (List.toArray (frCells x.a)))]) ?_ (cells26 x.a) _ fun a3 h3 => ?_
  · have e1 : a2.eval (.tmp 74) = .agg (List.toArray (frCells x.a)) := h2.eval (t := 74) rfl
    simp only [List.map_cons, List.map_nil, e1]
  have hownw := owns_keep (w' := w) hown fun k hk => (hst.keep.frame k (hF k hk)).2
  have hbase : ∀ k, (Value.slice a n c).ownBlock = some k → W0.heap.size ≤ k := by
    intro k hk
    rcases hown.2 with ⟨h1, _⟩ | ⟨g, c1, cur, h1, h2, _⟩
    · rw [h1] at hk; cases hk
    · rw [h1] at hk; cases hk; exact h2
  have hFlt : ∀ k, F k → k < w.heap.size := fun k hk => hst.keep.lt hk
  have L3 := L.grown h2 (alloc_grown w (.cells (List.toArray (frCells x.a)) 26)) fun _ h => by cases h
  have hLs := L.size h2
  have g1 := alloc_grown w (.cells (List.toArray (frCells x.a)) 26)
  have hnew : (w.alloc (.cells (List.toArray (frCells x.a)) 26)).heap[w.heap.size]? = some (.cells (List.toArray (frCells x.a)) 26 (0, 0)) := by
    show (w.heap.push _)[w.heap.size]? = _
    simp
  have hs1 : (w.alloc (.cells (List.toArray (frCells x.a)) 26)).heap.size = w.heap.size + 1 := Array.size_push ..
  generalize w.alloc (.cells (List.toArray (frCells x.a)) 26) = w1 at h3 L3 g1 hnew hs1
  have hown1 := owns_keep (w' := w1) hownw fun k hk => g1.block k (hFlt k (hF k hk)) (by simp)
  obtain ⟨v', w2, hr2, own2, g2, n2⟩ := append_fresh (P := Try.prog) w1 33 0 26 ti _ 2 24 v33 hti tz ts tb rfl (by omega) W0.heap.size _ n _ hown1 ⟨w.heap.size, 0, none⟩ 1 1 (frCells x.a) rfl
    (fun j u hj => by
      rw [addr_add, Nat.zero_add]
      simp only [World.cell?, hnew]
      simpa using hj) (fun u hu => by simp only [frCells, List.mem_cons, List.not_mem_nil, or_false] at hu; rcases hu with rfl | rfl <;> rfl) (by simp only [maxLen]; omega) (by omega) (by omega)
  have hv' : ∃ g c', v' = .slice (some ⟨g, 0, none⟩) (n + 1) c' ∧ g < w2.heap.size := by
    rcases own2.2 with ⟨_, h1⟩ | ⟨g, c', cur, e1, _, e3, _⟩
    · omega
    · exact ⟨g, c', e1, row_lt e3⟩
  obtain ⟨g, c', rfl, hgl⟩ := hv'
  refine append_stand rg3 (by omega) (by simp only [List.length_set]; exact lX ..) h3 (v := .slice a n c) (u := .slice (some ⟨w.heap.size, 0, none⟩) 1 1) (h3.eval (t := 73) rfl) (h3.eval (t := 75) rfl) hr2 g2 (fun r hr => .inl (hF r hr)) _ fun a4 h4 => ?_
  have L4 := L3.grown h3 g2 hbase
  refine assign_stand rg4 (by omega) (by simp only [List.length_set]; exact lX ..) h4 (v := .slice (some ⟨g, 0, none⟩) (n + 1) c') (h4.eval (t := 76) rfl) [] fun a5 h5 => ?_
  have hwk := h5.weak (s' := { rS s (some ⟨g, 0, none⟩) (n + 1) c' o i [(8, .int .i64 m)] with lo := fr2 }) (by
    rw [← wk20 s a n c o i m x (some ⟨g, 0, none⟩) (n + 1) c' (.slice a n c) (.agg (List.toArray (frCells x.a))) (.slice (some ⟨w.heap.size, 0, none⟩) 1 1)]
    exact dropSt_wk _ _ _) (Nat.le_refl _) (Nat.le_refl _)
  have hct := hwk.cut (lo := 4096) (hi := frH) (cl20 ..)
  rw [ct20] at hct
  refine hQ _ w2 (some ⟨g, 0, none⟩) c' _ w2 L4 hct ?_ fun k hk => ?_
  · have e : cellsF (fs ++ [x.a]) = cellsF fs ++ frCells x.a := by unfold cellsF; rw [List.flatMap_append]; simp
    rw [e]
    exact own2
  · cases hk
    rcases n2 g rfl with h | h
    · exact .inl (.inl (hF g h))
    · exact .inr ⟨h, hgl⟩
end Go.Ab
/- alidaderef11.Scan: its walk. -/
namespace Go.Ab
open Go Go.Proofs
section
variable (s z : ByteArray) (a : Option Addr) (n c : Nat) (o i m : Int) (x : Two Fr Bool)
theorem oR0 : okNamed (mkSt 83 [0] [.string s] [] [] [] 4096 frH frT) = true := by kernel_rfl
theorem oR1 : okNamed (mkSt 83 [0, 5] [.string s, .slice none 0 0] [] [] [] 4096 frH frT) = true := by kernel_rfl
theorem oR2 : okNamed (mkSt 83 [0, 5, 6] [.string s, .slice none 0 0, .int .i64 0] [] [] [] 4096 frH frT) = true := by kernel_rfl
theorem oR3 : okNamed (rS s a n c o i []) = true := by kernel_rfl
theorem oR8 : okNamed (rS s a n c o i [(2, .slice a n c), (3, .string z), (4, .int .i64 o)]) = true := by kernel_rfl
theorem oR10 : okNamed (rS s a n c o i [(8, .int .i64 m)]) = true := by kernel_rfl
theorem oR14 : okNamed (rS s a n c o i [(8, .int .i64 m), (2, .slice a n c), (3, .string z), (4, .int .i64 o)]) = true := by kernel_rfl
theorem oRX : okNamed (rX s a n c o i m x) = true := by kernel_rfl
theorem oRX' : okNamed { rX s a n c o i m x with lo := fr2 } = true := by kernel_rfl
theorem oR22 : okNamed (mkSt 83 [2, 3, 4] [.slice a n c, .string z, .int .i64 o] [] [] [] 4096 frH frT) = true := by kernel_rfl
theorem rR8 : resA Try.prog (rS s a n c o i [(2, .slice a n c), (3, .string z), (4, .int .i64 o)]) Try.f17.results.toList = some [.val (.slice a n c), .val (.string z), .val (.int .i64 o)] := by kernel_rfl
theorem rR14 : resA Try.prog (rS s a n c o i [(8, .int .i64 m), (2, .slice a n c), (3, .string z), (4, .int .i64 o)]) Try.f17.results.toList = some [.val (.slice a n c), .val (.string z), .val (.int .i64 o)] := by kernel_rfl
theorem rR22 : resA Try.prog (mkSt 83 [2, 3, 4] [.slice a n c, .string z, .int .i64 o] [] [] [] 4096 frH frT) Try.f17.results.toList = some [.val (.slice a n c), .val (.string z), .val (.int .i64 o)] := by kernel_rfl
theorem wkR : dropSt [] (others 83 [0, 5, 6, 7]) (rS s a n c o i [(8, .int .i64 m)]) = rS s a n c o i [] := by kernel_rfl
theorem wkX : dropSt [] (others 83 [0, 5, 6, 7]) { rX s a n c o i m x with lo := fr2 } = { rS s a n c o i [] with lo := fr2 } := by kernel_rfl
theorem clX : okClean 4096 { rS s a n c o i [] with lo := fr2 } = true := by kernel_rfl
theorem ctX : ({ ({ rS s a n c o i [] with lo := fr2 } : St) with lo := 4096, hi := frH } : St) = rS s a n c o i [] := by kernel_rfl
end
def ScanRR (W0 : World) (x : Scd) (act : Act) (w : World) : Prop := ∃ v, (results Try.f17 act.tmps).run Try.prog w = .ok v w ∧ act.defers = [] ∧ RowKit.Below W0.heap.size W0 w ∧ ScanX W0 x v w
theorem scan_retR {W0 wb : World} {F : Nat → Prop} {s : St} {a : Option Addr} {n c : Nat} {fs : List Fr} {l : List UInt8} {o : Nat} {act : Act} {w : World} (L : Live W0 F wb) (hst : Stand F wb 83 s act w) (hown : wb.ownsRow W0.heap.size 26 2 (.slice a n c) n (cellsF fs)) (hF : ∀ r, (Value.slice a n c).ownBlock = some r → F r) (hn : fs.length = n)
    (hr : resA Try.prog s Try.f17.results.toList = some [.val (.slice a n c), .val (.string (bsL l)), .val (.int .i64 (o : Int))]) : ScanRR W0 (fs, l, o) act w := by
  obtain ⟨y1, y2, y3⟩ := hst.resultsV (P := Try.prog) (fn := Try.f17) (v := .tuple #[.slice a n c, .string (bsL l), .int .i64 (o : Int)]) hr rfl
  subst hn
  exact ⟨_, y1, y2, (L.chain _ y3).below, a, c, rfl, owns_keep hown fun r hr => (hst.keep.frame r (hF r hr)).2⟩
structure SInvR (W0 : World) (S0 : List UInt8) (i : Nat) (fs : List Fr) (o : Nat) (F : Nat → Prop) (wb : World) (a : Option Addr) (n c : Nat) (act : Act) (w : World) : Prop where
  live : Live W0 F wb
  stand : Stand F wb 83 (rS (bsL S0) a n c o i []) act w
  own : wb.ownsRow W0.heap.size 26 2 (.slice a n c) n (cellsF fs)
  prot : ∀ r, (Value.slice a n c).ownBlock = some r → F r
  len : fs.length = n
  b1 : n ≤ i
  b2 : o ≤ i
  b3 : i ≤ S0.length
  eq : scanV S0 = catS fs o (scanV (S0.drop i))
theorem rGok : GamOk Try.prog (rGam szOk fun p => openV p.1) := .cons okRefOpen .nil
theorem rCall : ∀ β, CallOk Try.prog (callN Try.prog { gam := rGam szOk fun p => openV p.1 } 1 β) := callN_ok (E := { gam := rGam szOk fun p => openV p.1 }) rGok 1
section
variable {W0 : World} {S0 : List UInt8} {Q : Exit → Act → World → Prop}
abbrev GoR (W0 : World) (S0 : List UInt8) (k : Nat) (Q : Exit → Act → World → Prop) : Prop := ∀ i' fs' o' F' wb' a' n' c' act' w', k < i' → SInvR W0 S0 i' fs' o' F' wb' a' n' c' act' w' → Q .normal act' w' ∧ Q (.exit 1) act' w'
abbrev SkipR (S0 : List UInt8) (W0 : World) (i : Nat) (fs : List Fr) (o : Nat) (Q : Exit → Act → World → Prop) : Prop := ∀ F' wb' a' n' c' act' w', Live W0 F' wb' → Stand F' wb' 83 (rS (bsL S0) a' n' c' (o + 1 : Nat) (i + 1 : Nat) []) act' w' → wb'.ownsRow W0.heap.size 26 2 (.slice a' n' c') n' (cellsF fs) → (∀ r, (Value.slice a' n' c').ownBlock = some r → F' r) → fs.length = n' →
      scanV (S0.drop i) = skipS (scanV (S0.drop (i + 1))) → Q (.exit 1) act' w'
theorem wad {x : Nat} (h : x ≤ 1099511627776) : IntKind.i64.wrap ((x : Int) + 1) = ((x + 1 : Nat) : Int) := by rw [wrapM]; omega
theorem waq {i m : Nat} (h : i ≤ 1099511627776) (hm : m ≤ 256) : IntKind.i64.wrap (IntKind.i64.wrap ((i : Int) + (m : Int)) + 5) = ((i + (m + 5) : Nat) : Int) := by
  have e : IntKind.i64.wrap ((i : Int) + (m : Int)) = ((i + m : Nat) : Int) := by rw [wrapM]; omega
  rw [e, wrapM]
  omega
/-- From the frame's bytes on. -/
theorem rtail (hS : S0.length ≤ 1099511627776) {i : Nat} {fs : List Fr} {o : Nat} {F : Nat → Prop} {wb : World} {a : Option Addr} {n c m : Nat} {act : Act} {w : World} (L : Live W0 F wb) (h5 : Stand F wb 83 (rS (bsL S0) a n c o i [(8, .int .i64 m)]) act w)
    (hown : wb.ownsRow W0.heap.size 26 2 (.slice a n c) n (cellsF fs)) (hF : ∀ r, (Value.slice a n c).ownBlock = some r → F r) (hlen : fs.length = n) (hb1 : n ≤ i) (hb2 : o ≤ i) (hm0 : m < 256) (hi5 : i + (m + 5) ≤ S0.length) (heq : scanV S0 = catS fs o (scanV (S0.drop i)))
    (hsc : scanV (S0.drop i) = if (openV (bsL ((S0.drop i).take (m + 5)))).b then consS (openV (bsL ((S0.drop i).take (m + 5)))).a (scanV ((S0.drop i).drop (m + 5))) else skipS (scanV (S0.drop (i + 1))))
    (skip : SkipR S0 W0 i fs o Q) (hN : GoR W0 S0 i Q) : (Code.seq rc16 (.seq rc17 (.seq (.region 20 rO20 false) rc21))).wp Try.prog Q act w := by
  have hsz := size_bsL S0
  have hrun := rr16 szOk (fun p => openV p.1) (bsL S0) a n c o i m
  have wq := waq (i := i) (m := m) (by omega) (by omega)
  dsimp only at hrun
  have hcut : (bsL S0).extract i (i + (m + 5)) = bsL ((S0.drop i).take (m + 5)) := by rw [extract_bsL, show i + (m + 5) - i = m + 5 by omega]
  rw [wq, decide_eq_true (p := 0 ≤ (i : Int) ∧ (i : Int) ≤ ((i + (m + 5) : Nat) : Int) ∧ ((i + (m + 5) : Nat) : Int) ≤ ((bsL S0).size : Int)) (by omega), cond_true, Int.toNat_natCast, Int.toNat_natCast, hcut] at hrun
  have hpre : szOk (bsL ((S0.drop i).take (m + 5)), ()) = true := decide_eq_true (by show (bsL _).size ≤ _; rw [size_bsL, List.length_take]; omega)
  rw [hpre, cond_true] at hrun
  refine wp_seq ((runs_drop rCall _ _ hrun).stand (oRX ..) h5 fun a6 w6 h6 => ?_)
  generalize hx : openV (bsL ((S0.drop i).take (m + 5))) = x at h6 hsc
  have hrun := rr17 szOk (fun p => openV p.1) (bsL S0) a n c o i m x
  rw [wad (x := o) (by omega), wad (x := i) (by omega)] at hrun
  cases hxb : x.b with
  | false =>
    rw [hxb] at hrun hsc
    simp only [Bool.not_false, cond_true] at hrun
    rw [if_neg (by simp)] at hsc
    refine wp_seq ((runs_drop rCall _ _ hrun).stand (oRX' ..) h6 fun a7 w7 h7 => ?_)
    have hwk := h7.weak (s' := { rS (bsL S0) a n c (o + 1 : Nat) (i + 1 : Nat) [] with lo := fr2 }) (by rw [← wkX (m := m) (x := x)]; exact dropSt_wk _ _ _) (Nat.le_refl _) (Nat.le_refl _)
    have hct := hwk.cut (lo := 4096) (hi := frH) (clX ..)
    rw [ctX] at hct
    exact skip F wb a n c a7 w7 L hct hown hF hlen hsc
  | true =>
    rw [hxb] at hrun hsc
    simp only [Bool.not_true, cond_false] at hrun
    rw [if_pos rfl] at hsc
    refine wp_seq ((runs_drop rCall _ _ hrun).stand (oRX ..) h6 fun a7 w7 h7 => ?_)
    refine wp_seq (rfound L h7 hown hF (by omega) fun F' wb' a' c' act' w' L' hst' hown' hF' => ?_)
    have hrun := rr21 szOk (fun p => openV p.1) (bsL S0) a' (n + 1) c' o i m
    rw [wq] at hrun
    refine (runs_drop rCall _ _ hrun).stand (oR3 ..) hst' fun a8 w8 h8 => ?_
    refine (hN (i + (m + 5)) (fs ++ [x.a]) o F' wb' a' (n + 1) c' a8 w8 (by omega) ⟨L', h8, hown', hF', by simp [hlen], by omega, by omega, by omega, ?_⟩).1
    rw [heq, hsc, List.drop_drop]
    unfold catS consS
    simp
/-- From a mark on. -/
theorem rmid (hS : S0.length ≤ 1099511627776) {i : Nat} {fs : List Fr} {o : Nat} {F : Nat → Prop} {wb : World} {a : Option Addr} {n c : Nat} {act : Act} {w : World} (L : Live W0 F wb) (h1 : Stand F wb 83 (rS (bsL S0) a n c o i []) act w)
    (hown : wb.ownsRow W0.heap.size 26 2 (.slice a n c) n (cellsF fs)) (hF : ∀ r, (Value.slice a n c).ownBlock = some r → F r) (hlen : fs.length = n) (hb1 : n ≤ i) (hb2 : o ≤ i) (hi : i < S0.length) (heq : scanV S0 = catS fs o (scanV (S0.drop i)))
    (hb : S0[i] = 165) (skip : SkipR S0 W0 i fs o Q) (hN : GoR W0 S0 i Q) (hR : ∀ act' w', ScanRR W0 (scanV S0) act' w' → Q .ret act' w') : (Code.seq rc8 (.seq rc10 (.seq rc11 (.seq rc14 (.seq rc16 (.seq rc17 (.seq (.region 20 rO20 false) rc21))))))).wp Try.prog Q act w := by
  have hsz := size_bsL S0
  have hd : S0.drop i = S0[i] :: S0.drop (i + 1) := List.drop_eq_getElem_cons hi
  rw [hb] at hd
  have hsc := scan_165 (S0.drop (i + 1))
  rw [← hd] at hsc
  have hdl : (S0.drop i).length = S0.length - i := List.length_drop ..
  have hg2 : (S0.drop i).getD 2 0 = S0.getD (i + 2) 0 := by
    rw [List.getD_eq_getElem?_getD, List.getElem?_drop, ← List.getD_eq_getElem?_getD]
  have wsz : IntKind.i64.wrap (((bsL S0).size : Int) - (i : Int)) = ((S0.length - i : Nat) : Int) := by rw [wrapM, hsz]; omega
  have hrun := rr8 szOk (fun p => openV p.1) (bsL S0) a n c o i
  rw [wsz] at hrun
  by_cases c3 : S0.length - i < 3
  · rw [decide_eq_true (p := ((S0.length - i : Nat) : Int) < 3) (by omega), cond_true, decide_eq_true (p := 0 ≤ (i : Int) ∧ (i : Int) ≤ ((bsL S0).size : Int) ∧ ((bsL S0).size : Int) ≤ ((bsL S0).size : Int)) (by omega), cond_true, Int.toNat_natCast, Int.toNat_natCast, rest_bsL] at hrun
    refine wp_seq ((runs_drop rCall _ _ hrun).stand (oR8 ..) h1 fun a2 w2 h2 => hR a2 w2 ?_)
    have hx : scanV S0 = (fs, S0.drop i, o) := by rw [heq, hsc, if_pos (by omega)]; simp [catS]
    rw [hx]
    exact scan_retR L h2 hown hF hlen (rR8 ..)
  rw [decide_eq_false (p := ((S0.length - i : Nat) : Int) < 3) (by omega), cond_false] at hrun
  rw [if_neg (by omega), hg2] at hsc
  refine wp_seq ((runs_drop rCall _ _ hrun).stand (oR3 ..) h1 fun a2 w2 h2 => ?_)
  have hrun := rr10 szOk (fun p => openV p.1) (bsL S0) a n c o i
  have wi2 : IntKind.i64.wrap ((i : Int) + 2) = ((i + 2 : Nat) : Int) := by rw [wrapM]; omega
  rw [wi2, decide_eq_true (p := 0 ≤ ((i + 2 : Nat) : Int) ∧ ((i + 2 : Nat) : Int) < ((bsL S0).size : Int)) (by omega), cond_true] at hrun
  have hby2 : byteI (bsL S0) ((i + 2 : Nat) : Int) = ((S0.getD (i + 2) 0).toNat : Int) := by
    unfold byteI
    rw [data_bsL, Int.toNat_natCast]
  rw [hby2] at hrun
  have hm0 := (S0.getD (i + 2) 0).toNat_lt
  generalize (S0.getD (i + 2) 0).toNat = m at hm0 hrun hsc
  rw [show IntKind.i64.wrap (m : Int) = (m : Int) by rw [wrapM]; omega] at hrun
  refine wp_seq ((runs_drop rCall _ _ hrun).stand (oR10 ..) h2 fun a3 w3 h3 => ?_)
  have hrun := rr11 szOk (fun p => openV p.1) (bsL S0) a n c o i m
  rw [wad (x := o) (by omega), wad (x := i) (by omega)] at hrun
  by_cases c64 : 64 < m
  · rw [decide_eq_true (p := (m : Int) > 64) (by omega), cond_true] at hrun
    rw [if_pos c64] at hsc
    refine wp_seq ((runs_drop rCall _ _ hrun).stand (oR10 ..) h3 fun a4 w4 h4 => ?_)
    have h4' := h4.weak (s' := rS (bsL S0) a n c (o + 1 : Nat) (i + 1 : Nat) []) (by rw [← wkR (m := m)]; exact dropSt_wk _ _ _) (Nat.le_refl _) (Nat.le_refl _)
    exact skip F wb a n c a4 w4 L h4' hown hF hlen hsc
  rw [decide_eq_false (p := (m : Int) > 64) (by omega), cond_false] at hrun
  rw [if_neg c64] at hsc
  refine wp_seq ((runs_drop rCall _ _ hrun).stand (oR10 ..) h3 fun a4 w4 h4 => ?_)
  have hrun := rr14 szOk (fun p => openV p.1) (bsL S0) a n c o i m
  have wm5 : IntKind.i64.wrap ((m : Int) + 5) = ((m + 5 : Nat) : Int) := by rw [wrapM]; omega
  rw [wsz, wm5] at hrun
  by_cases c5 : S0.length - i < m + 5
  · rw [decide_eq_true (p := ((S0.length - i : Nat) : Int) < ((m + 5 : Nat) : Int)) (by omega), cond_true, decide_eq_true (p := 0 ≤ (i : Int) ∧ (i : Int) ≤ ((bsL S0).size : Int) ∧ ((bsL S0).size : Int) ≤ ((bsL S0).size : Int)) (by omega), cond_true, Int.toNat_natCast, Int.toNat_natCast, rest_bsL] at hrun
    refine wp_seq ((runs_drop rCall _ _ hrun).stand (oR14 ..) h4 fun a5 w5 h5 => hR a5 w5 ?_)
    have hx : scanV S0 = (fs, S0.drop i, o) := by rw [heq, hsc, if_pos (by omega)]; simp [catS]
    rw [hx]
    exact scan_retR L h5 hown hF hlen (rR14 ..)
  rw [decide_eq_false (p := ((S0.length - i : Nat) : Int) < ((m + 5 : Nat) : Int)) (by omega), cond_false] at hrun
  rw [if_neg (by omega)] at hsc
  refine wp_seq ((runs_drop rCall _ _ hrun).stand (oR10 ..) h4 fun a5 w5 h5 => ?_)
  exact rtail hS L h5 hown hF hlen hb1 hb2 hm0 (by omega) heq hsc skip hN
theorem rstep (hS : S0.length ≤ 1099511627776) {i : Nat} {fs : List Fr} {o : Nat} {F : Nat → Prop} {wb : World} {a : Option Addr} {n c : Nat} {act : Act} {w : World} (hi : i < S0.length) (I : SInvR W0 S0 i fs o F wb a n c act w)
    (hN : GoR W0 S0 i Q) (hR : ∀ act' w', ScanRR W0 (scanV S0) act' w' → Q .ret act' w') : rI.wp Try.prog Q act w := by
  obtain ⟨L, hst, hown, hF, hlen, hb1, hb2, hb3, heq⟩ := I
  have hsz := size_bsL S0
  rw [rI_is]
  have hrun := rr5 szOk (fun p => openV p.1) (bsL S0) a n c o i
  rw [decide_eq_true (p := 0 ≤ (i : Int) ∧ (i : Int) < ((bsL S0).size : Int)) (by omega), cond_true] at hrun
  have hbyte : byteI (bsL S0) i = (S0[i].toNat : Int) := by
    unfold byteI
    rw [data_bsL, Int.toNat_natCast, List.getD_eq_getElem?_getD, List.getElem?_eq_getElem hi]
    rfl
  rw [hbyte] at hrun
  have skip : SkipR S0 W0 i fs o Q := by
    intro F' wb' a' n' c' act' w' L' h' hown' hF' hl' hsk
    refine (hN (i + 1) fs (o + 1) F' wb' a' n' c' act' w' (by omega) ⟨L', h', hown', hF', hl', by omega, by omega, by omega, ?_⟩).2
    rw [heq, hsk]
    unfold catS skipS
    simp only [Prod.mk.injEq, true_and]
    omega
  by_cases hb : S0[i] = 165
  · have e165 : ((S0[i].toNat : Int) == 165) = true := by rw [hb]; rfl
    rw [e165, Bool.not_true, cond_false] at hrun
    exact wp_seq ((runs_drop rCall _ _ hrun).stand (oR3 ..) hst fun a1 w1 h1 => rmid hS L h1 hown hF hlen hb1 hb2 hi heq hb skip hN hR)
  · have e165 : ((S0[i].toNat : Int) == 165) = false := by
      refine beq_eq_false_iff_ne.2 fun h => hb (UInt8.toNat_inj.1 ?_)
      show S0[i].toNat = 165
      omega
    rw [e165, Bool.not_false, cond_true, wad (x := o) (by omega), wad (x := i) (by omega)] at hrun
    refine wp_seq ((runs_drop rCall _ _ hrun).stand (oR3 ..) hst fun a1 w1 h1 => ?_)
    have hd : S0.drop i = S0[i] :: S0.drop (i + 1) := List.drop_eq_getElem_cons hi
    exact skip F wb a n c a1 w1 L h1 hown hF hlen (by rw [hd, scan_other hb])
end
theorem rrounds {W0 : World} {S0 : List UInt8} (hS : S0.length ≤ 1099511627776) {Q : Exit → Act → World → Prop} (hR : ∀ act' w', ScanRR W0 (scanV S0) act' w' → Q .ret act' w')
    (hE : ∀ (fs : List Fr) (o : Nat) (F : Nat → Prop) (wb : World) (a : Option Addr) (n c : Nat) (act : Act) (w : World), SInvR W0 S0 S0.length fs o F wb a n c act w → Q (.exit 0) act w) :
    ∀ (k i : Nat) (fs : List Fr) (o : Nat) (F : Nat → Prop) (wb : World) (a : Option Addr) (n c : Nat) (act : Act) (w : World), S0.length - i ≤ k → SInvR W0 S0 i fs o F wb a n c act w → Code.rounds Try.prog (.seq rc4 (.block 1 rI)) Q (k + 1) act w := by
  have hsz := size_bsL S0
  intro k
  induction k with
  | zero =>
    intro i fs o F wb a n c act w hk I
    have hi : i = S0.length := by have := I.b3; omega
    subst hi
    rw [rounds_succ]
    have hrun := rr4 szOk (fun p => openV p.1) (bsL S0) a n c o S0.length
    rw [decide_eq_false (p := (S0.length : Int) < ((bsL S0).size : Int)) (by omega), cond_false] at hrun
    exact wp_seq ((runs_drop rCall _ _ hrun).stand (oR3 ..) I.stand fun a1 w1 h1 => hE fs o F wb a n c a1 w1 { I with stand := h1 })
  | succ k ih =>
    intro i fs o F wb a n c act w hk I
    rw [rounds_succ]
    have hrun := rr4 szOk (fun p => openV p.1) (bsL S0) a n c o i
    by_cases hi : i < S0.length
    · rw [decide_eq_true (p := (i : Int) < ((bsL S0).size : Int)) (by omega), cond_true] at hrun
      refine wp_seq ((runs_drop rCall _ _ hrun).stand (oR3 ..) I.stand fun a1 w1 h1 => ?_)
      refine wp_block (rstep hS hi { I with stand := h1 } (fun i' fs' o' F' wb' a' n' c' act' w' h I' => ?_) fun act' w' h => hR act' w' h)
      have := ih i' fs' o' F' wb' a' n' c' act' w' (by omega) I'
      exact ⟨this, this⟩
    · have hi : i = S0.length := by have := I.b3; omega
      subst hi
      rw [decide_eq_false (p := (S0.length : Int) < ((bsL S0).size : Int)) (by omega), cond_false] at hrun
      exact wp_seq ((runs_drop rCall _ _ hrun).stand (oR3 ..) I.stand fun a1 w1 h1 => hE fs o F wb a n c a1 w1 { I with stand := h1 })
theorem f17_is : Try.prog.funcs[17]? = some Try.f17 := by kernel_rfl
theorem f17_on : (Try.f17.body.isSome && !Try.f17.name == "runtime.NumGoroutine") = true := by kernel_rfl
theorem rscan_calls (s : ByteArray) (hS : s.size ≤ 1099511627776) (w : World) : Calls Try.prog 17 #[.string s] w fun e w' => ∃ v, e = .returned v ∧ RowKit.Below w.heap.size w w' ∧ ScanX w (scanV s.data.toList) v w' := by
  refine calls_of_wp f17_is rC_is ?_
  have hst := Stand.start (N := 83) [.string s] w 4096 frH frT (by simp)
  refine wp_seq ((runs_drop rCall _ _ (rr0 szOk (fun p => openV p.1) s)).stand (oR0 ..) hst fun a1 w1 h1 => ?_)
  refine wp_seq ((runs_drop rCall _ _ (rr1 szOk (fun p => openV p.1) s)).stand (oR1 ..) h1 fun a2 w2 h2 => ?_)
  refine wp_seq ((runs_drop rCall _ _ (rr2 szOk (fun p => openV p.1) s)).stand (oR2 ..) h2 fun a3 w3 h3 => ?_)
  refine wp_seq ((runs_drop rCall _ _ (rr3 szOk (fun p => openV p.1) s)).stand (oR3 ..) h3 fun a4 w4 h4 => ?_)
  have hl : s.data.toList.length = s.size := rfl
  have I : SInvR w s.data.toList 0 [] 0 (fun k => k < w.heap.size) w none 0 0 a4 w4 := ⟨Live.start w, by rw [bsL_data]; exact h4, ⟨rfl, .inl ⟨rfl, rfl⟩⟩, fun r hr => by (cases hr), rfl, by omega, by omega, by omega, by simp [catS]⟩
  refine wp_seq (wp_block (wp_loop_rounds (s.size + 1) (rrounds (W0 := w) (S0 := s.data.toList) (by omega) (fun act' w' h => ?_) (fun fs o F wb a n c act' w' I' => ?_) s.size 0 [] 0 _ w none 0 0 a4 w4 (by omega) I)))
  · obtain ⟨v, y1, y2, y3, y4⟩ := h
    exact (bodyPost_ret y1 y2 ⟨v, rfl, y3, y4⟩ : bodyPost Try.prog Try.f17 (fun e w' => ∃ v, e = .returned v ∧ RowKit.Below w.heap.size w w' ∧ ScanX w (scanV s.data.toList) v w') .ret act' w')
  · show rc22.wp Try.prog _ act' w'
    refine (runs_drop rCall _ _ (rr22 szOk (fun p => openV p.1) (bsL s.data.toList) a n c o (s.data.toList.length : Nat))).stand (oR22 ..) I'.stand fun a5 w5 h5 => ?_
    have hx : scanV s.data.toList = (fs, [], o) := by rw [I'.eq, List.drop_length, scan_nil]; simp [catS]
    obtain ⟨v, y1, y2, y3, y4⟩ := scan_retR (l := []) I'.live h5 I'.own I'.prot I'.len (rR22 ..)
    rw [← hx] at y4
    exact (bodyPost_ret y1 y2 ⟨v, rfl, y3, y4⟩ : bodyPost Try.prog Try.f17 (fun e w' => ∃ v, e = .returned v ∧ RowKit.Below w.heap.size w w' ∧ ScanX w (scanV s.data.toList) v w') .ret a5 w5)
end Go.Ab
/- Fields of foreign memory; guarded operations of a region whose order is asked. -/
namespace Go.Ab
open Go Go.Proofs
def fieldOff (P : Program) (s : TypeId) (f : Nat) : Option Nat :=
  match P.underlying s with
  | some (.struct fs) => match fs[f]? with
    | some fd => match P.info? fd.type with
      | some i => if i.size = 0 then none else some fd.offset
      | none => none
    | none => none
  | _ => none
theorem run_fieldOff {P : Program} {s : TypeId} {f n : Nat} (h : fieldOff P s f = some n) (r off : Nat) (w : World) : (Instr.fieldAt s (.pointer (some ⟨r, off, none⟩)) f).run P w = .ok (.pointer (some ⟨r, off + n, none⟩)) w := by
  unfold fieldOff at h
  split at h
  · rename_i fs hu
    split at h
    · rename_i fd hfd
      split at h
      · rename_i ti hi'
        split at h
        · cases h
        · rename_i hz
          cases h
          simp only [Instr.fieldAt, Sem.run_bind, run_underlying hu, Result.andThen_ok, hfd, Instr.sureAddr, Sem.run_pure, fieldPlace, run_sizeOf hi', if_neg hz, addr_add]
      · cases h
    · cases h
  · cases h
theorem sigG_some {ops : Array Oper} {k : Nat} {op : Op} {d : Option Nat} {g : Option (Nat × Bool)} (h : sigG ops k = some (op, d, g)) : ∃ o, ops[k]? = some o ∧ o.op = op ∧ o.dst = d ∧ o.guard = g := by
  unfold sigG at h
  cases ho : ops[k]? with
  | none => rw [ho] at h; cases h
  | some o =>
    rw [ho] at h
    simp only [Option.map_some, Option.some.injEq, Prod.mk.injEq] at h
    exact ⟨o, rfl, h.1, h.2.1, h.2.2⟩
/-- A guarded operation that is wanted. -/
theorem spOn_of {P : Program} {ops : Array Oper} {W : Nat → World} {N : Nat} {s : Sp} {op : Op} {g t : Nat} {want : Bool} (hs : sigG ops s.i = some (op, some s.d, some (g, want))) (hgd : (ops[g]?).bind (·.dst) = some t) (hmem : (t, Value.bool want) ∈ s.reads) (hd : s.d < N) (hon : s.on = true)
    (h : ∀ o : Oper, o.op = op → match s.tok with
      | none => ∀ (a : Act) (w : World), Reads s a → (execOp a.eval o).run P w = .ok (.value s.val) w
      | some (n, m) => ∀ a : Act, Reads s a → (execOp a.eval o).run P (W n) = .ok (.value s.val) (W m)) : SpOk P ops W N s := by
  obtain ⟨o, ho, hop, hdst, hg⟩ := sigG_some hs
  exact ⟨hd, o, ho, hdst, fun a hr => by rw [hon]; simp [Region.wanted, hg, yielded_of hgd (hr _ hmem)], (fun h' => by rw [hon] at h'; cases h'), fun _ => h o hop⟩
section
variable {a : Act} {o : Oper} {w : World} {P : Program}
theorem x_move {t : Nat} {v : Value} (h : o.op = .move (.tmp t)) (hx : a.tmps[t]? = some v) : (execOp a.eval o).run P w = .ok (.value v) w := by simp only [execOp, h, get_eval hx, Sem.run_pure]
theorem x_index {t elem : TypeId} {x y r n c i k : Nat} {ti : TypeInfo} (h : o.op = .indexAddr t (.tmp x) (.tmp y)) (hu : P.underlying t = some (.slice elem)) (hi : P.info? elem = some ti) (hz : ti.size = k) (hx : a.tmps[x]? = some (.slice (some ⟨r, 0, none⟩) n c)) (hy : a.tmps[y]? = some (.int .i64 i)) (hlt : i < n) :
    (execOp a.eval o).run P w = .ok (.value (.pointer (some ⟨r, i * k, none⟩))) w := by
  have hb : 0 ≤ (i : Int) ∧ (i : Int) < (n : Int) := by omega
  simp only [execOp, h, Instr.indexAt, get_eval hy, asIntOf, Sem.run_bind, run_underlying hu, Result.andThen_ok, get_eval hx, Sem.run_pure, Sem.run_ite, if_pos hb, run_sizeOf hi, Int.toNat_natCast, addr_add, hz, Nat.zero_add]
theorem x_field {s : TypeId} {f n x r off : Nat} (h : o.op = .fieldAddr s (.tmp x) f) (hf : fieldOff P s f = some n) (hx : a.tmps[x]? = some (.pointer (some ⟨r, off, none⟩))) : (execOp a.eval o).run P w = .ok (.value (.pointer (some ⟨r, off + n, none⟩))) w := by
  simp only [execOp, h, get_eval hx, Sem.run_bind, run_fieldOff hf, Result.andThen_ok, Sem.run_pure]
theorem x_load {t : TypeId} {d : TypeDesc} {x : Nat} {b : Addr} {v : Value} (h : o.op = .load t (.tmp x)) (hd : P.underlying t = some d) (hagg : isAggD d = false) (hx : a.tmps[x]? = some (.pointer (some b))) (hc : w.cell? b = some v) : (execOp a.eval o).run P w = .ok (.value v) w := by
  simp only [execOp, h, Instr.loadAt, get_eval hx, Instr.sureAddr, Sem.run_bind, Sem.run_pure, Result.andThen_ok, run_loadScalar hd hagg hc]
theorem x_neqInt {t ty : TypeId} {x y : Nat} {k : IntKind} {m n : Int} (h : o.op = .binOp .neq t (.tmp x) (.tmp y) ty) (hx : a.tmps[x]? = some (.int k m)) (hy : a.tmps[y]? = some (.int k n)) : (execOp a.eval o).run P w = .ok (.value (.bool (m != n))) w := by
  simp only [execOp, h, get_eval hx, get_eval hy, eqGuard_at_int, binOp_neq, Sem.run_bind, Sem.run_pure, Result.andThen_ok]
theorem x_pick {c : Nat} {x y : Operand} {b : Bool} {v : Value} (h : o.op = .pick (.tmp c) x y) (hc : a.tmps[c]? = some (.bool b)) (hv : (if b = true then a.eval x else a.eval y) = v) : (execOp a.eval o).run P w = .ok (.value v) w := by
  subst hv
  cases b <;> simp [execOp, h, get_eval hc, asBool]
end
end Go.Ab
/- alidaderef11.Same: the same frames are the same. -/
namespace Go.Ab
open Go Go.Proofs
noncomputable def mC : Code := Try.f18.body.getD .skip
noncomputable def mc0 : Code := seqL mC
noncomputable def mc1 : Code := seqL (seqR mC)
noncomputable def mT : Code := seqR (seqR mC)
noncomputable def mc3 : Code := seqL (seqL mT)
noncomputable def mLp : Code := inB (inB (seqR (seqL mT)))
noncomputable def mcE : Code := seqR mT
noncomputable def mc4 : Code := seqL mLp
noncomputable def mO6 : Array Oper := regO (seqL (inB (seqL (seqR mLp))))
noncomputable def mc7 : Code := seqR (inB (seqL (seqR mLp)))
noncomputable def mc5 : Code := seqR (seqR mLp)
theorem mC_is : Try.f18.body = some (.seq mc0 (.seq mc1 (.seq (.seq mc3 (.block 0 (.loop (.seq mc4 (.seq (.block 1 (.seq (.region 6 mO6 true) mc7)) mc5))))) mcE))) := by kernel_rfl
def mS (va vb : Value) (l : List (Nat × Value)) : St := mkSt 41 ([0, 1] ++ l.map (·.1)) ([va, vb] ++ l.map (·.2)) [] [] [] 4096 frH frT
section
variable (va vb : Value) (a b : Option Addr) (n n2 ca cb : Nat) (i : Int) (v4 : Value)
theorem ms0 : frRun [] 41 mc0 ⟨[va, vb].map .val ++ List.replicate (41 - [va, vb].length) (.val undef), [], 4096, frH, frT, []⟩ [] [0, 1] = some (.normal, mS va vb []) := by kernel_rfl
theorem ms1 : frRun [] 41 mc1 (mS (.slice a n ca) (.slice b n2 cb) []) [] [0, 1] = bif !((n : Int) == (n2 : Int)) then some (.ret, mS (.slice a n ca) (.slice b n2 cb) []) else some (.normal, { mS (.slice a n ca) (.slice b n2 cb) [] with tmps := (mS (.slice a n ca) (.slice b n2 cb) []).tmps }) := by kernel_rfl
theorem ms3 : frRun [] 41 mc3 (mS va vb []) [] [0, 1, 5] = some (.normal, mS va vb [(5, .int .i64 0)]) := by kernel_rfl
theorem ms4 : frRun [] 41 mc4 (mS (.slice a n ca) vb [(5, .int .i64 i)]) [] [0, 1, 5] = bif decide (i < (n : Int)) then some (.normal, { mS (.slice a n ca) vb [(5, .int .i64 i)] with tmps := (mS (.slice a n ca) vb [(5, .int .i64 i)]).tmps }) else some (.exit 0, { mS (.slice a n ca) vb [(5, .int .i64 i)] with tmps := (mS (.slice a n ca) vb [(5, .int .i64 i)]).tmps }) := by kernel_rfl
theorem ms7 : frRun [] 41 mc7 (mS va vb [(5, .int .i64 i), (40, .bool false)]) [] [0, 1, 5] = some (.normal, mS va vb [(5, .int .i64 i)]) := by kernel_rfl
theorem ms5 : frRun [] 41 mc5 (mS va vb [(5, .int .i64 i)]) [] [0, 1, 5] = some (.normal, mS va vb [(5, .int .i64 (IntKind.i64.wrap (i + 1)))]) := by kernel_rfl
theorem msE : frRun [] 41 mcE (mS va vb [(5, .int .i64 i)]) [] [4] = some (.ret, mkSt 41 [4] [.bool true] [] [] [] 4096 frH frT) := by kernel_rfl
theorem om0 : okNamed (mS va vb []) = true := by kernel_rfl
theorem om5 : okNamed (mS va vb [(5, .int .i64 i)]) = true := by kernel_rfl
theorem omE : okNamed (mkSt 41 [4] [.bool true] [] [] [] 4096 frH frT) = true := by kernel_rfl
theorem rmE : resA Try.prog (mkSt 41 [4] [.bool true] [] [] [] 4096 frH frT) Try.f18.results.toList = some [.val (.bool true)] := by kernel_rfl
theorem lm5 : (mS va vb [(5, .int .i64 i)]).tmps.length = 41 := by kernel_rfl
end
def sps6 (va vb : Value) (i ra rb : Nat) (x : Fr) : List Sp :=
  let ii : Value := .int .i64 (i : Int)
  let p (r k : Nat) : Value := .pointer (some ⟨r, k, none⟩)
  let k : Value := .int .i64 x.kind
  let d : Value := .string x.data
  let no : Value := .bool false
  [⟨0, 17, true, [(0, va)], va, none⟩, ⟨1, 18, true, [(5, ii)], ii, none⟩, ⟨2, 19, true, [(17, va), (18, ii)], p ra (i * 2), none⟩, ⟨3, 20, true, [(19, p ra (i * 2))], p ra (i * 2 + 0), none⟩, ⟨4, 21, true, [(20, p ra (i * 2 + 0))], k, some (0, 0)⟩,
   ⟨5, 22, true, [(1, vb)], vb, none⟩, ⟨6, 23, true, [(5, ii)], ii, none⟩, ⟨7, 24, true, [(22, vb), (23, ii)], p rb (i * 2), none⟩, ⟨8, 25, true, [(24, p rb (i * 2))], p rb (i * 2 + 0), none⟩, ⟨9, 26, true, [(25, p rb (i * 2 + 0))], k, some (0, 0)⟩,
   ⟨10, 27, true, [(21, k), (26, k)], no, none⟩, ⟨11, 28, true, [(27, no)], no, none⟩,
   ⟨12, 29, true, [(28, no), (0, va)], va, none⟩, ⟨13, 30, true, [(28, no), (5, ii)], ii, none⟩, ⟨14, 31, true, [(28, no), (29, va), (30, ii)], p ra (i * 2), none⟩, ⟨15, 32, true, [(28, no), (31, p ra (i * 2))], p ra (i * 2 + 1), none⟩, ⟨16, 33, true, [(28, no), (32, p ra (i * 2 + 1))], d, some (0, 0)⟩,
   ⟨17, 34, true, [(28, no), (1, vb)], vb, none⟩, ⟨18, 35, true, [(28, no), (5, ii)], ii, none⟩, ⟨19, 36, true, [(28, no), (34, vb), (35, ii)], p rb (i * 2), none⟩, ⟨20, 37, true, [(28, no), (36, p rb (i * 2))], p rb (i * 2 + 1), none⟩, ⟨21, 38, true, [(28, no), (37, p rb (i * 2 + 1))], d, some (0, 0)⟩,
   ⟨22, 39, true, [(28, no), (33, d), (38, d)], no, none⟩, ⟨23, 40, true, [(28, no), (39, no)], no, none⟩]
theorem len6 (va vb : Value) (i ra rb : Nat) (x : Fr) : (sps6 va vb i ra rb x).length = mO6.size := by kernel_rfl
theorem any6 (va vb : Value) (i ra rb : Nat) (x : Fr) : anyOk mO6.toList ((sps6 va vb i ra rb x).map fun s => s.it.foot) = true := by kernel_rfl
theorem e6_0 : sigOf mO6 0 = some (.move (.tmp 0), some 17, true) := by kernel_rfl
theorem e6_1 : sigOf mO6 1 = some (.move (.tmp 5), some 18, true) := by kernel_rfl
theorem e6_2 : sigOf mO6 2 = some (.indexAddr 33 (.tmp 17) (.tmp 18), some 19, true) := by kernel_rfl
theorem e6_3 : sigOf mO6 3 = some (.fieldAddr 26 (.tmp 19) 0, some 20, true) := by kernel_rfl
theorem e6_4 : sigOf mO6 4 = some (.load 3 (.tmp 20), some 21, true) := by kernel_rfl
theorem e6_5 : sigOf mO6 5 = some (.move (.tmp 1), some 22, true) := by kernel_rfl
theorem e6_6 : sigOf mO6 6 = some (.move (.tmp 5), some 23, true) := by kernel_rfl
theorem e6_7 : sigOf mO6 7 = some (.indexAddr 33 (.tmp 22) (.tmp 23), some 24, true) := by kernel_rfl
theorem e6_8 : sigOf mO6 8 = some (.fieldAddr 26 (.tmp 24) 0, some 25, true) := by kernel_rfl
theorem e6_9 : sigOf mO6 9 = some (.load 3 (.tmp 25), some 26, true) := by kernel_rfl
theorem e6_10 : sigOf mO6 10 = some (.binOp .neq 3 (.tmp 21) (.tmp 26) 3, some 27, true) := by kernel_rfl
theorem e6_11 : sigOf mO6 11 = some (.move (.tmp 27), some 28, true) := by kernel_rfl
theorem e6_12 : sigG mO6 12 = some (.move (.tmp 0), some 29, some (11, false)) := by kernel_rfl
theorem e6_13 : sigG mO6 13 = some (.move (.tmp 5), some 30, some (11, false)) := by kernel_rfl
theorem e6_14 : sigG mO6 14 = some (.indexAddr 33 (.tmp 29) (.tmp 30), some 31, some (11, false)) := by kernel_rfl
theorem e6_15 : sigG mO6 15 = some (.fieldAddr 26 (.tmp 31) 1, some 32, some (11, false)) := by kernel_rfl
theorem e6_16 : sigG mO6 16 = some (.load 9 (.tmp 32), some 33, some (11, false)) := by kernel_rfl
theorem e6_17 : sigG mO6 17 = some (.move (.tmp 1), some 34, some (11, false)) := by kernel_rfl
theorem e6_18 : sigG mO6 18 = some (.move (.tmp 5), some 35, some (11, false)) := by kernel_rfl
theorem e6_19 : sigG mO6 19 = some (.indexAddr 33 (.tmp 34) (.tmp 35), some 36, some (11, false)) := by kernel_rfl
theorem e6_20 : sigG mO6 20 = some (.fieldAddr 26 (.tmp 36) 1, some 37, some (11, false)) := by kernel_rfl
theorem e6_21 : sigG mO6 21 = some (.load 9 (.tmp 37), some 38, some (11, false)) := by kernel_rfl
theorem e6_22 : sigG mO6 22 = some (.binOp .neq 9 (.tmp 33) (.tmp 38) 9, some 39, some (11, false)) := by kernel_rfl
theorem e6_23 : sigOf mO6 23 = some (.pick (.tmp 28) (.const (.bool true)) (.tmp 39), some 40, true) := by kernel_rfl
theorem gd6 : (mO6[11]?).bind (·.dst) = some 28 := by kernel_rfl
theorem f26_0 : fieldOff Try.prog 26 0 = some 0 := by kernel_rfl
theorem f26_1 : fieldOff Try.prog 26 1 = some 1 := by kernel_rfl
theorem v3 : (Try.prog.underlying 3).map isAggD = some false := by kernel_rfl
theorem v9a : (Try.prog.underlying 9).map isAggD = some false := by kernel_rfl
theorem nagg {t : TypeId} (h : (Try.prog.underlying t).map isAggD = some false) : ∃ d, Try.prog.underlying t = some d ∧ isAggD d = false := by
  cases hu : Try.prog.underlying t with
  | none => rw [hu] at h; cases h
  | some d => rw [hu] at h; exact ⟨d, rfl, by simpa using h⟩
theorem spOk6 {W : World} {va vb : Value} {i ra rb n ca cb : Nat} {x : Fr} (ha : va = .slice (some ⟨ra, 0, none⟩) n ca) (hb : vb = .slice (some ⟨rb, 0, none⟩) n cb) (hi : i < n)
    (k1 : W.cell? ⟨ra, i * 2 + 0, none⟩ = some (.int .i64 x.kind)) (k2 : W.cell? ⟨rb, i * 2 + 0, none⟩ = some (.int .i64 x.kind)) (d1 : W.cell? ⟨ra, i * 2 + 1, none⟩ = some (.string x.data)) (d2 : W.cell? ⟨rb, i * 2 + 1, none⟩ = some (.string x.data)) :
    ∀ q ∈ sps6 va vb i ra rb x, SpOk Try.prog mO6 (fun _ => W) 41 q := by
  obtain ⟨ti, hti, ts, tb, tz⟩ := info26
  obtain ⟨t3, h3, g3⟩ := nagg v3
  obtain ⟨t9, h9, g9⟩ := nagg v9a
  subst ha
  subst hb
  intro q hq
  simp only [sps6, List.mem_cons, List.not_mem_nil, or_false] at hq
  rcases hq with rfl | rfl | rfl | rfl | rfl | rfl | rfl | rfl | rfl | rfl | rfl | rfl | rfl | rfl | rfl | rfl | rfl | rfl | rfl | rfl | rfl | rfl | rfl | rfl
  · exact spOk_of e6_0 (by dsimp only; omega) rfl fun o ho a w hr => x_move ho (hr (0, _) (by simp))
  · exact spOk_of e6_1 (by dsimp only; omega) rfl fun o ho a w hr => x_move ho (hr (5, _) (by simp))
  · exact spOk_of e6_2 (by dsimp only; omega) rfl fun o ho a w hr => x_index ho v33 hti ts (hr (17, .slice (some ⟨ra, 0, none⟩) n ca) (by simp)) (hr (18, _) (by simp)) hi
  · exact spOk_of e6_3 (by dsimp only; omega) rfl fun o ho a w hr => x_field ho f26_0 (hr (19, _) (by simp))
  · exact spOk_of e6_4 (by dsimp only; omega) rfl fun o ho a hr => x_load ho h3 g3 (hr (20, _) (by simp)) k1
  · exact spOk_of e6_5 (by dsimp only; omega) rfl fun o ho a w hr => x_move ho (hr (1, _) (by simp))
  · exact spOk_of e6_6 (by dsimp only; omega) rfl fun o ho a w hr => x_move ho (hr (5, _) (by simp))
  · exact spOk_of e6_7 (by dsimp only; omega) rfl fun o ho a w hr => x_index ho v33 hti ts (hr (22, .slice (some ⟨rb, 0, none⟩) n cb) (by simp)) (hr (23, _) (by simp)) hi
  · exact spOk_of e6_8 (by dsimp only; omega) rfl fun o ho a w hr => x_field ho f26_0 (hr (24, _) (by simp))
  · exact spOk_of e6_9 (by dsimp only; omega) rfl fun o ho a hr => x_load ho h3 g3 (hr (25, _) (by simp)) k2
  · exact spOk_of e6_10 (by dsimp only; omega) rfl fun o ho a w hr => (x_neqInt ho (hr (21, .int .i64 x.kind) (by simp)) (hr (26, .int .i64 x.kind) (by simp))).trans (by simp)
  · exact spOk_of e6_11 (by dsimp only; omega) rfl fun o ho a w hr => x_move ho (hr (27, _) (by simp))
  · exact spOn_of e6_12 gd6 (by simp) (by dsimp only; omega) rfl fun o ho a w hr => x_move ho (hr (0, _) (by simp))
  · exact spOn_of e6_13 gd6 (by simp) (by dsimp only; omega) rfl fun o ho a w hr => x_move ho (hr (5, _) (by simp))
  · exact spOn_of e6_14 gd6 (by simp) (by dsimp only; omega) rfl fun o ho a w hr => x_index ho v33 hti ts (hr (29, .slice (some ⟨ra, 0, none⟩) n ca) (by simp)) (hr (30, _) (by simp)) hi
  · exact spOn_of e6_15 gd6 (by simp) (by dsimp only; omega) rfl fun o ho a w hr => x_field ho f26_1 (hr (31, _) (by simp))
  · exact spOn_of e6_16 gd6 (by simp) (by dsimp only; omega) rfl fun o ho a hr => x_load ho h9 g9 (hr (32, _) (by simp)) d1
  · exact spOn_of e6_17 gd6 (by simp) (by dsimp only; omega) rfl fun o ho a w hr => x_move ho (hr (1, _) (by simp))
  · exact spOn_of e6_18 gd6 (by simp) (by dsimp only; omega) rfl fun o ho a w hr => x_move ho (hr (5, _) (by simp))
  · exact spOn_of e6_19 gd6 (by simp) (by dsimp only; omega) rfl fun o ho a w hr => x_index ho v33 hti ts (hr (34, .slice (some ⟨rb, 0, none⟩) n cb) (by simp)) (hr (35, _) (by simp)) hi
  · exact spOn_of e6_20 gd6 (by simp) (by dsimp only; omega) rfl fun o ho a w hr => x_field ho f26_1 (hr (36, _) (by simp))
  · exact spOn_of e6_21 gd6 (by simp) (by dsimp only; omega) rfl fun o ho a hr => x_load ho h9 g9 (hr (37, _) (by simp)) d2
  · refine spOn_of e6_22 gd6 (by simp) (by dsimp only; omega) rfl fun o ho a w hr => ?_
    simp only [execOp, ho, get_eval (hr (33, .string x.data) (by simp)), get_eval (hr (38, .string x.data) (by simp)), eqGuard_at_string, binOp_string_neq, Sem.run_bind, Sem.run_pure, Result.andThen_ok, beq_self_eq_true, Bool.not_true]
  · exact spOk_of e6_23 (by dsimp only; omega) rfl fun o ho a w hr => x_pick ho (hr (28, .bool false) (by simp)) (by simp [get_eval (hr (39, .bool false) (by simp))])
theorem chOk6 {f : Nat → Option Value} {va vb : Value} {i ra rb : Nat} {x : Fr} (h0 : f 0 = some va) (h1 : f 1 = some vb) (h5 : f 5 = some (.int .i64 (i : Int))) : ChOk (sps6 va vb i ra rb x) f 0 0 := by
  unfold sps6
  simp [ChOk, h0, h1, h5]
theorem wk6 (va vb : Value) (i ra rb : Nat) (x : Fr) :
    dropSt [] (others 41 [0, 1, 5, 40]) { mS va vb [(5, .int .i64 (i : Int))] with tmps := (sps6 va vb i ra rb x).foldl (fun l p => l.set p.d (.val p.val)) (mS va vb [(5, .int .i64 (i : Int))]).tmps } = mS va vb [(5, .int .i64 (i : Int)), (40, .bool false)] := by kernel_rfl
end Go.Ab
/- alidaderef11.Same: its walk. -/
namespace Go.Ab
open Go Go.Proofs
/-- A list of frames lies there. -/
structure FrsAt (w : World) (v : Value) (fs : List Fr) : Prop where
  small : fs.length ≤ 1099511627776
  lies : (∃ c, v = .slice none 0 c ∧ fs = []) ∨ ∃ r c cur, v = .slice (some ⟨r, 0, none⟩) fs.length c ∧ w.heap[r]? = some (.cells cur 26 (0, 0)) ∧ cur.toList.take (fs.length * 2) = cellsF fs
theorem FrsAt.keep {w w' : World} {v : Value} {fs : List Fr} (h : FrsAt w v fs) (hk : ∀ r, v.ownBlock = some r → w'.heap[r]? = w.heap[r]?) : FrsAt w' v fs := by
  refine ⟨h.small, ?_⟩
  rcases h.lies with h2 | ⟨r, c, cur, rfl, h3, h4⟩
  · exact .inl h2
  · exact .inr ⟨r, c, cur, rfl, by rw [hk r rfl]; exact h3, h4⟩
theorem cellsF_at : ∀ (fs : List Fr) (i : Nat) (hi : i < fs.length), (cellsF fs)[i * 2 + 0]? = some (.int .i64 fs[i].kind) ∧ (cellsF fs)[i * 2 + 1]? = some (.string fs[i].data)
  | [], i, hi => by simp at hi
  | f :: fs, 0, _ => ⟨rfl, rfl⟩
  | f :: fs, i + 1, hi => by
    have ih := cellsF_at fs i (by simpa using hi)
    have e : cellsF (f :: fs) = .int .i64 f.kind :: .string f.data :: cellsF fs := rfl
    rw [e, show (i + 1) * 2 + 0 = i * 2 + 0 + 1 + 1 by omega, show (i + 1) * 2 + 1 = i * 2 + 1 + 1 + 1 by omega]
    exact ih
theorem cellsF_len (fs : List Fr) : (cellsF fs).length = fs.length * 2 := by
  induction fs with
  | nil => rfl
  | cons f fs ih => show (cellsF fs).length + 1 + 1 = _; rw [ih, List.length_cons]; omega
theorem cell_of {w : World} {r : Nat} {cur : Array Value} {fs : List Fr} (h : w.heap[r]? = some (.cells cur 26 (0, 0))) (ht : cur.toList.take (fs.length * 2) = cellsF fs) {i : Nat} (hi : i < fs.length) :
    w.cell? ⟨r, i * 2 + 0, none⟩ = some (.int .i64 fs[i].kind) ∧ w.cell? ⟨r, i * 2 + 1, none⟩ = some (.string fs[i].data) := by
  obtain ⟨h1, h2⟩ := cellsF_at fs i hi
  rw [← ht, List.getElem?_take, if_pos (by omega)] at h1 h2
  simp only [World.cell?, h]
  simp only [Array.getElem?_toList] at h1 h2
  exact ⟨by simpa using h1, by simpa using h2⟩
theorem FrsAt.elem {w : World} {v : Value} {fs : List Fr} (h : FrsAt w v fs) {i : Nat} (hi : i < fs.length) : ∃ r c, v = .slice (some ⟨r, 0, none⟩) fs.length c ∧ r < w.heap.size ∧ w.cell? ⟨r, i * 2 + 0, none⟩ = some (.int .i64 fs[i].kind) ∧ w.cell? ⟨r, i * 2 + 1, none⟩ = some (.string fs[i].data) := by
  rcases h.lies with ⟨c, _, h2⟩ | ⟨r, c, cur, rfl, h3, h4⟩
  · subst h2; simp at hi
  · exact ⟨r, c, rfl, row_lt h3, cell_of h3 h4 hi⟩
theorem FrsAt.val {w : World} {v : Value} {fs : List Fr} (h : FrsAt w v fs) : ∃ a c, v = .slice a fs.length c := by
  rcases h.lies with ⟨c, rfl, rfl⟩ | ⟨r, c, cur, rfl, _, _⟩
  · exact ⟨none, c, rfl⟩
  · exact ⟨_, c, rfl⟩
theorem scanX_at {W0 : World} {x : Scd} {v : Value} {w' : World} (h : ScanX W0 x v w') (hs : x.1.length ≤ 1099511627776) : ∃ l, v = .tuple #[l, .string (bsL x.2.1), .int .i64 (x.2.2 : Int)] ∧ FrsAt w' l x.1 ∧ (∀ r, l.ownBlock = some r → W0.heap.size ≤ r ∧ r < w'.heap.size) ∧ w'.ownsRow W0.heap.size 26 2 l x.1.length (cellsF x.1) := by
  obtain ⟨a, c, rfl, hown⟩ := h
  refine ⟨_, rfl, ⟨hs, ?_⟩, ?_, hown⟩
  · rcases hown.2 with ⟨h1, h2⟩ | ⟨g, c', cur, e1, e2, e3, _, _, _, e5⟩
    · have hx : x.1 = [] := List.eq_nil_of_length_eq_zero h2
      rw [h1, hx]
      exact .inl ⟨0, rfl, rfl⟩
    · cases e1
      exact .inr ⟨g, c, cur, rfl, e3, e5⟩
  · intro r hr
    rcases hown.2 with ⟨h1, h2⟩ | ⟨g, c', cur, e1, e2, e3, _, _, _, e5⟩
    · rw [h1] at hr; cases hr
    · cases e1; cases hr; exact ⟨e2, row_lt e3⟩
theorem Stand.drew {F : Nat → Prop} {w0 : World} {N : Nat} {s : St} {a : Act} {w : World} (h : Stand F w0 N s a w) : Stand F w0 N s a { w with drawn := w.drawn + 1 } := by
  obtain ⟨σ, ⟨⟨u, hf, hs⟩, hn⟩, hk, hF⟩ := h
  exact ⟨σ, ⟨⟨u, hf.drew.rebase, hs⟩, hn⟩, ⟨hk.os, hk.tape, hk.output, hk.grown, hk.frame⟩, hF⟩
theorem same_rounds {W0 : World} {va vb : Value} {fs : List Fr} (hA : FrsAt W0 va fs) (hB : FrsAt W0 vb fs) {Q : Exit → Act → World → Prop} {F : Nat → Prop} (hFa : ∀ r, va.ownBlock = some r → F r) (hFb : ∀ r, vb.ownBlock = some r → F r)
    (hE : ∀ act w, Stand F W0 41 (mS va vb [(5, .int .i64 (fs.length : Nat))]) act w → Q (.exit 0) act w) :
    ∀ (k i : Nat) (act : Act) (w : World), i + k = fs.length → Stand F W0 41 (mS va vb [(5, .int .i64 (i : Nat))]) act w → Code.rounds Try.prog (.seq mc4 (.seq (.block 1 (.seq (.region 6 mO6 true) mc7)) mc5)) Q (k + 1) act w := by
  obtain ⟨a, ca, hva⟩ := hA.val
  have hsm := hA.small
  intro k
  induction k with
  | zero =>
    intro i act w hk hst
    have hi : i = fs.length := by omega
    subst hi
    rw [rounds_succ]
    rw [hva] at hst
    have hrun := ms4 vb a fs.length ca fs.length
    rw [decide_eq_false (p := (fs.length : Int) < (fs.length : Int)) (by omega), cond_false] at hrun
    refine wp_seq ((runs_drop (frCall) _ _ hrun).stand (om5 ..) hst fun a1 w1 h1 => hE a1 w1 ?_)
    rw [hva]
    exact h1
  | succ k ih =>
    intro i act w hk hst
    rw [rounds_succ]
    have hi : i < fs.length := by omega
    have hst' := hst
    rw [hva] at hst'
    have hrun := ms4 vb a fs.length ca i
    rw [decide_eq_true (p := (i : Int) < (fs.length : Int)) (by omega), cond_true] at hrun
    refine wp_seq ((runs_drop (frCall) _ _ hrun).stand (om5 ..) hst' fun a1 w1 h1 => ?_)
    have h1 : Stand F W0 41 (mS va vb [(5, .int .i64 (i : Nat))]) a1 w1 := by rw [hva]; exact h1
    have hA1 := hA.keep (w' := w1) fun r hr => (h1.keep.frame r (hFa r hr)).2
    have hB1 := hB.keep (w' := w1) fun r hr => (h1.keep.frame r (hFb r hr)).2
    obtain ⟨ra, ca', ea, la, k1, d1⟩ := hA1.elem hi
    obtain ⟨rb, cb', eb, lb, k2, d2⟩ := hB1.elem hi
    obtain ⟨hd, hs⟩ := h1.act
    refine wp_seq (wp_block (wp_seq ?_))
    refine draw_vals (W := fun _ => { w1 with drawn := w1.drawn + 1 }) (N := 41) (e := 0) mixed (len6 va vb i ra rb fs[i]) (fun k q hq => ?_) (any6 ..) (spOk6 ea eb hi k1 k2 d1 d2) hd hs rfl (chOk6 (h1.get rfl) (h1.get rfl) (h1.get rfl)) ?_
    · match k, hq with
      | 0, hq | 1, hq | 2, hq | 3, hq | 4, hq | 5, hq | 6, hq | 7, hq | 8, hq | 9, hq | 10, hq | 11, hq | 12, hq | 13, hq | 14, hq | 15, hq | 16, hq | 17, hq | 18, hq | 19, hq | 20, hq | 21, hq | 22, hq | 23, hq => cases hq; rfl
      | k + 24, hq => simp [sps6] at hq
    have h2 := (h1.drew).puts (sps6 va vb i ra rb fs[i]) (fun q hq => by
        simp only [sps6, List.mem_cons, List.not_mem_nil, or_false] at hq
        rcases hq with rfl | rfl | rfl | rfl | rfl | rfl | rfl | rfl | rfl | rfl | rfl | rfl | rfl | rfl | rfl | rfl | rfl | rfl | rfl | rfl | rfl | rfl | rfl | rfl <;> (dsimp only; omega)) (lm5 ..)
    have h3 := h2.weak (s' := mS va vb [(5, .int .i64 (i : Int)), (40, .bool false)]) (by rw [← wk6 va vb i ra rb fs[i]]; exact dropSt_wk _ _ _) (Nat.le_refl _) (Nat.le_refl _)
    refine (runs_drop (frCall) _ _ (ms7 va vb i)).stand (om5 ..) h3 fun a4 w4 h4 => ?_
    have hrun := ms5 va vb i
    rw [show IntKind.i64.wrap ((i : Int) + 1) = ((i + 1 : Nat) : Int) by rw [wrapM]; omega] at hrun
    refine (runs_drop (frCall) _ _ hrun).stand (om5 ..) h4 fun a5 w5 h5 => ?_
    exact ih (i + 1) a5 w5 (by omega) h5
theorem f18_is : Try.prog.funcs[18]? = some Try.f18 := by kernel_rfl
theorem f18_on : (Try.f18.body.isSome && !Try.f18.name == "runtime.NumGoroutine") = true := by kernel_rfl
theorem same_calls {w : World} {va vb : Value} {fs : List Fr} (hA : FrsAt w va fs) (hB : FrsAt w vb fs) : Calls Try.prog 18 #[va, vb] w fun e w' => ∃ v, e = .returned v ∧ RowKit.Below w.heap.size w w' ∧ v = .bool true := by
  obtain ⟨a, ca, hva⟩ := hA.val
  obtain ⟨b, cb, hvb⟩ := hB.val
  have lt : ∀ {v : Value}, FrsAt w v fs → ∀ r, v.ownBlock = some r → r < w.heap.size := by
    intro v h r hr
    rcases h.lies with ⟨c, rfl, _⟩ | ⟨r', c, cur, rfl, h3, _⟩
    · cases hr
    · cases hr; exact row_lt h3
  refine calls_of_wp f18_is mC_is ?_
  have hst := Stand.start (N := 41) [va, vb] w 4096 frH frT (by simp)
  refine wp_seq ((runs_drop (frCall) _ _ (ms0 va vb)).stand (om0 ..) hst fun a1 w1 h1 => ?_)
  have hrun := ms1 a b fs.length fs.length ca cb
  rw [beq_self_eq_true, Bool.not_true, cond_false, ← hva, ← hvb] at hrun
  refine wp_seq ((runs_drop (frCall) _ _ hrun).stand (om0 ..) h1 fun a2 w2 h2 => ?_)
  refine wp_seq (wp_seq ((runs_drop (frCall) _ _ (ms3 va vb)).stand (om5 ..) h2 fun a3 w3 h3 => ?_))
  refine wp_block (wp_loop_rounds (fs.length + 1) (same_rounds hA hB (lt hA) (lt hB) (fun a4 w4 h4 => ?_) fs.length 0 a3 w3 (by omega) h3))
  show mcE.wp Try.prog _ a4 w4
  refine (runs_drop (frCall) _ _ (msE va vb _)).stand omE h4 fun a5 w5 h5 => ?_
  obtain ⟨y1, y2, y3⟩ := h5.results (P := Try.prog) (fn := Try.f18) rmE
  exact (bodyPost_ret y1 y2 ⟨_, rfl, y3.below, rfl⟩ : bodyPost Try.prog Try.f18 (fun e w' => ∃ v, e = .returned v ∧ RowKit.Below w.heap.size w w' ∧ v = .bool true) .ret a5 w5)
end Go.Ab
