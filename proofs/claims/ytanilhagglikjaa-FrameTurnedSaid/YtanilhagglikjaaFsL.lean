/- A part of the proof of 'FrameTurned': lemmas, no statement of their own; no condition. -/
import Derived.Test.YtanilhagglikjaaFsK
import Derived.Test.YtanilhagglikjaaLvFWraps
/- FrameTurned: its walk. -/
namespace Go.Ab
open Go Go.Proofs
section
variable {P : Program} {N : Nat} {ops : Array Oper} {Q : Exit → Act → World → Prop} {F : Nat → Prop} {w0 : World} {s : St} {a : Act} {w : World}
/-- An operation that gives nothing and changes what the frame doesn't own. -/
theorem unit_world {k : Nat} {op : Op} (hs : sigOf ops k = some (op, none, true)) (hh : Stand F w0 N s a w) {w' : World}
    (hrun : ∀ o : Oper, o.op = op → (execOp a.eval o).run P w = .ok .skip w') (hgrow : w.heap.size ≤ w'.heap.size) (hsame : ∀ j, j < w.heap.size → ¬ F j → w'.heap[j]? = w.heap[j]?) (rest : List Nat)
    (hK : Stand (Wide F w w') w' N s a w' → wpOps P ops Q rest a w') : wpOps P ops Q (k :: rest) a w := by
  unfold sigOf at hs
  cases ho : ops[k]? with
  | none => rw [ho] at hs; cases hs
  | some o =>
    rw [ho] at hs
    simp only [Option.map_some, Option.some.injEq, Prod.mk.injEq, Option.isNone_iff_eq_none] at hs
    obtain ⟨hop, hdst, hg⟩ := hs
    rw [wpOps_cons]
    unfold wpOp
    rw [ho]
    simp only
    rw [if_pos (by simp [Region.wanted, hg])]
    refine .inl ?_
    unfold Oper.wp
    rw [hrun o hop]
    simp only [Oper.upon, hdst]
    exact hK (hh.moved hgrow hsame)
end
theorem run_storeU8 {w : World} {g j : Nat} {old : Value} {x : Int} (hc : w.cell? ⟨g, j, none⟩ = some old) (hf : w.frozen? ⟨g, j, none⟩ = false) : (storeVar 5 ⟨g, j, none⟩ (.int .u8 x)).run Try.prog w = .ok () (w.setCell ⟨g, j, none⟩ (.int .u8 x)) := by
  obtain ⟨ti, hti, ts, _, _⟩ := info5
  unfold storeVar
  rw [Sem.run_bind, run_sizeOf hti w]
  simp only [Result.andThen_ok]
  rw [if_neg (by rw [ts]; simp [Value.cells])]
  have e : (Value.int IntKind.u8 x).cells.toList = [.int .u8 x] := rfl
  rw [e]
  unfold storeCells
  rw [addr_add, Nat.add_zero, Sem.run_bind, run_store Try.prog w _ _ _ rfl]
  simp only [hc, hf]
  simp [storeCells, Result.andThen]
theorem bytes_stringF {P : Program} {w : World} {g len cap : Nat} {fz : Nat × Nat} {src dst e e' : TypeId} {cur : Array Value} {l : List UInt8} (hs : P.underlying src = some (.slice e)) (he : P.underlying e = some (.int .u8)) (hd : P.underlying dst = some .string)
    (hg : w.heap[g]? = some (.cells cur e' fz)) (hx : cur.toList.take len = cellsL l) (hl : l.length = len) :
    (convert src dst (.slice (some ⟨g, 0, none⟩) len cap)).run P w = .ok (.string (bsL l)) w := by
  have hx' : (cur.toList.drop 0).take len = (l.map (fun b => (b.toNat : Int))).map (Value.int .u8) := by rw [List.drop_zero, hx, cellsL_eq]
  have hload := run_loadCells_row (P := P) w g 0 len e' fz cur.toList _ hg hx' (by simpa using hl)
  rw [run_convert_bytes_string w src dst e _ _ _ hs he hd, run_bytesToString w _ _ _ _ hload]
  exact congrArg (fun z => Result.ok (Value.string z) w) (push_bsL l)
theorem cellsL_set (l : List UInt8) (j : Nat) (x : UInt8) : (cellsL l).set j (.int .u8 x.toNat) = cellsL (l.set j x) := by unfold cellsL; rw [List.map_set]
theorem idxA_nat (i : Int) {n : Nat} (hn : 0 < n) (hn2 : n ≤ 1024) : ∃ j : Nat, idxA i n = j ∧ j < n := by
  unfold idxA
  have h2 : i.tmod n < n := Int.tmod_lt_of_pos i (by omega)
  have h3 : -(n : Int) < i.tmod n := Int.lt_tmod_of_pos i (by omega)
  rw [show IntKind.i64.wrap (i.tmod n + n) = i.tmod n + n by rw [wrapM]; omega]
  have h4 : 0 ≤ (i.tmod n + n).tmod n := Int.tmod_nonneg _ (by omega)
  have h5 : (i.tmod n + n).tmod n < n := Int.tmod_lt_of_pos _ (by omega)
  exact ⟨((i.tmod n + n).tmod n).toNat, by omega, by omega⟩
theorem dGok : GamOk Try.prog (dG (fun _ => true) (fun p => wrapV p.1) szOk fun p => openV p.1) := .cons okAwake (.cons okWrap (.cons okOpen .nil))
theorem dCall : ∀ β, CallOk Try.prog (callN Try.prog { gam := dG (fun _ => true) (fun p => wrapV p.1) szOk fun p => openV p.1 } 1 β) := callN_ok (E := { gam := dG (fun _ => true) (fun p => wrapV p.1) szOk fun p => openV p.1 }) dGok 1
theorem bytes_there (w : World) (s : ByteArray) : ∃ cur : Array Value, ∃ fz : Nat × Nat, (Lib.bytesWorld w 5 s).heap[w.heap.size]? = some (.cells cur 5 fz) ∧ s.size ≤ cur.size ∧ fz.1 = cur.size ∧ cur.toList.take s.size = cellsL s.data.toList := by
  refine ⟨_, _, Lib.bytesWorld_at_new w 5 s, ?_, rfl, ?_⟩
  · unfold Lib.bytesCells
    rw [Array.size_append, Array.size_map]
    exact Nat.le_add_right _ _
  · unfold Lib.bytesCells cellsL
    rw [Array.toList_append, Array.toList_map]
    exact List.take_left' (by rw [List.length_map]; rfl)
theorem set_there {w : World} {g j : Nat} {cur : Array Value} {e : TypeId} {fz : Nat × Nat} {v : Value} (h : w.heap[g]? = some (.cells cur e fz)) :
    (w.setCell ⟨g, j, none⟩ v).heap[g]? = some (.cells (cur.setIfInBounds j v) e fz) ∧ (w.setCell ⟨g, j, none⟩ v).heap.size = w.heap.size ∧ ∀ i, i ≠ g → (w.setCell ⟨g, j, none⟩ v).heap[i]? = w.heap[i]? := by
  unfold World.setCell
  refine ⟨?_, by simp, fun i hi => ?_⟩
  · simp [Array.getElem?_modify, h]
  · simp [Array.getElem?_modify, Ne.symm hi]
theorem cellsL_at {l : List UInt8} {j : Nat} (hj : j < l.length) : (cellsL l)[j]? = some (.int .u8 (l.getD j 0).toNat) := by
  unfold cellsL
  rw [List.getElem?_map, List.getElem?_eq_getElem hj, List.getD_eq_getElem?_getD, List.getElem?_eq_getElem hj]
  rfl
theorem xor_ne {x y : UInt8} (h : y ≠ 0) : x ^^^ y ≠ x := by
  intro e
  apply h
  apply UInt8.toNat_inj.1
  have e2 := congrArg UInt8.toNat e
  rw [UInt8.toNat_xor] at e2
  have e3 := congrArg (x.toNat ^^^ ·) e2
  simp only [← Nat.xor_assoc, Nat.xor_self, Nat.zero_xor] at e3
  exact e3
/-- From the bytes as a string on. -/
theorem turned_end {W0 wb : World} {F : Nat → Prop} {i : Int} {by_ n cap g : Nat} {l : List UInt8} {fz : Nat × Nat} {cur : Array Value} {act : Act} {w : World} (L9 : Live W0 F wb) (h9 : Stand F wb 51 (dV i by_ [(9, .slice (some ⟨g, 0, none⟩) n cap)]) act w) (hFg : F g) (st1 : wb.heap[g]? = some (.cells cur 5 fz))
    (hcur9 : cur.toList.take n = cellsL l) (hn : l.length = n) (hn2 : n ≤ 1024) (hno : (openV (bsL l)).b = false) :
    (Code.seq (.region 8 dO8 false) dc9).wp Try.prog (bodyPost Try.prog Try.f8 fun e w' => e = .returned (.bool true) ∧ RowKit.Below W0.heap.size W0 w') act w := by
  have st1 : w.heap[g]? = some (.cells cur 5 fz) := ((h9.keep.frame g hFg).2).trans st1
  refine wp_seq (wp_region ?_)
  rw [dn8]
  refine move_stand dg8_0 (by omega) (ld9 ..) h9 (v := .slice (some ⟨g, 0, none⟩) n cap) (h9.eval (t := 9) rfl) _ fun a10 h10 => ?_
  refine op_here dg8_1 (by omega) (by rw [List.length_set]; exact ld9 ..) h10 (v := .string (bsL l)) (fun o ho => ?_) _ fun a11 h11 => ?_
  · have e1 : a10.eval (.tmp 44) = .slice (some ⟨g, 0, none⟩) n cap := h10.eval (t := 44) rfl
    simp only [execOp, ho, e1, Sem.run_bind, bytes_stringF (P := Try.prog) (cap := cap) v38 v5 v9 st1 hcur9 hn, Result.andThen_ok, Sem.run_pure]
  have hrun := dr8 (fun _ => true) (fun p => wrapV p.1) szOk (fun p => openV p.1) (bsL l) (some ⟨g, 0, none⟩) n cap i by_ (.slice (some ⟨g, 0, none⟩) n cap)
  have hpre : szOk (bsL l, ()) = true := decide_eq_true (by show (bsL _).size ≤ _; rw [size_bsL]; omega)
  dsimp only at hrun
  rw [hpre, cond_true, hno] at hrun
  refine ops_stand (dCall _) (qf := isSum _) [] _ hrun (fun _ _ hj => drop_at hj) (od11 ..) h11 [] fun a12 w12 h12 => ?_
  refine (runs_drop dCall _ _ (dr9 (fun _ => true) (fun p => wrapV p.1) szOk (fun p => openV p.1) i by_ false)).stand (odE ..) h12 fun a13 w13 h13 => ?_
  obtain ⟨y1, y2, y3⟩ := h13.results (P := Try.prog) (fn := Try.f8) (dRE ..)
  exact (bodyPost_ret y1 y2 ⟨rfl, (L9.chain _ y3).below⟩ : bodyPost Try.prog Try.f8 (fun e w' => e = .returned (.bool true) ∧ RowKit.Below W0.heap.size W0 w') .ret a13 w13)
/-- The byte is put. -/
theorem turned_store {wb : World} {F2 : Nat → Prop} {i : Int} {by_ n cap g j : Nat} {x y : UInt8} {fz : Nat × Nat} {cur : Array Value} {a7 : Act} {w7 : World} {Q : Exit → Act → World → Prop} (h7 : Stand F2 wb 51 (dV i by_ [(9, .slice (some ⟨g, 0, none⟩) n cap), (27, .slice (some ⟨g, 0, none⟩) n cap), (37, .int .i64 j), (41, .int .u8 x.toNat)]) a7 w7)
    (hg7 : w7.heap[g]? = some (.cells cur 5 fz)) (hcell : cur.toList[j]? = some (.int .u8 y.toNat)) (hjn : j < n) (hcs : n ≤ cur.size) (hfz : fz.1 = cur.size) (hFg : F2 g)
    (hK : ∀ a' w', w'.os = w7.os → w'.tape = w7.tape → w'.output = w7.output → w7.heap.size ≤ w'.heap.size → (∀ b, b ≠ g → w'.heap[b]? = w7.heap[b]?) → w'.heap[g]? = some (.cells (cur.setIfInBounds j (.int .u8 x.toNat)) 5 fz) → Stand (Wide F2 w7 w') w' 51 (dV i by_ [(9, .slice (some ⟨g, 0, none⟩) n cap)]) a' w' → Q .normal a' w') :
    wpOps Try.prog dO7 Q [15, 16] a7 w7 := by
  obtain ⟨ti, hti, ts, tb, tz⟩ := info5
  have hcell7 : w7.cell? ⟨g, j, none⟩ = some (.int .u8 y.toNat) := by
    simp only [World.cell?, hg7]
    simpa using hcell
  have hfr : w7.frozen? ⟨g, j, none⟩ = false := by
    simp only [World.frozen?, hg7]
    have : ¬ fz.1 ≤ j := by omega
    simp [this]
  refine index_stand dg7_15 (by omega) (ld41 ..) v38 hti h7 (b := ⟨g, 0, none⟩) (len := n) (cap := cap) (i := j) (ik := .i64) (h7.eval (t := 27) rfl) (h7.eval (t := 37) rfl) hjn _ fun a8 h8 => ?_
  rw [addr_add, ts, Nat.zero_add, Nat.mul_one] at h8
  obtain ⟨st1, st2, st3⟩ := set_there (j := j) (v := .int .u8 x.toNat) hg7
  have e1 : a8.eval (.tmp 42) = .pointer (some ⟨g, j, none⟩) := h8.eval (t := 42) rfl
  have e2 : a8.eval (.tmp 41) = .int .u8 x.toNat := h8.eval (t := 41) rfl
  refine unit_world dg7_16 h8 (w' := w7.setCell ⟨g, j, none⟩ (.int .u8 x.toNat)) (fun o ho => ?_) (by rw [st2]; omega) (fun b hb hnF => st3 b fun e => hnF (by rw [e]; exact hFg)) [] fun h9 => ?_
  · simp only [execOp, ho, Instr.storeAt, e1, e2, Instr.sureAddr, Sem.run_bind, Sem.run_pure, Result.andThen_ok, run_storeU8 hcell7 hfr]
  have h9 := h9.weak (s' := dV i by_ [(9, .slice (some ⟨g, 0, none⟩) n cap)]) (by rw [← wd41 (some ⟨g, 0, none⟩) n cap x.toNat i by_ j (.pointer (some ⟨g, j, none⟩))]; exact dropSt_wk _ _ _) (Nat.le_refl _) (Nat.le_refl _)
  exact hK _ _ rfl rfl rfl (by rw [st2]; omega) st3 st1 h9
/-- From the bytes on. -/
theorem turned_mid {W0 wb : World} {F2 : Nat → Prop} {i : Int} {by_ k cap g : Nat} {d l : List UInt8} {fz : Nat × Nat} {cur : Array Value} {a3 : Act} {w3 : World} (L2 : Live W0 F2 wb) (h3 : Stand F2 wb 51 (dV i by_ [(9, .slice (some ⟨g, 0, none⟩) (d.length + 5) cap)]) a3 w3) (hFg : F2 g) (hg : wb.heap[g]? = some (.cells cur 5 fz)) (hgW : W0.heap.size ≤ g)
    (hl : wrapL k d = l) (hwl : l.length = d.length + 5) (hcur : cur.toList.take (d.length + 5) = cellsL l) (hcs : d.length + 5 ≤ cur.size) (hfz : fz.1 = cur.size) (hb0 : 0 < by_) (hb : by_ < 256) (hd : d.length ≤ 64) :
    (Code.seq (.region 7 dO7 false) (.seq (.region 8 dO8 false) dc9)).wp Try.prog (bodyPost Try.prog Try.f8 fun e w' => e = .returned (.bool true) ∧ RowKit.Below W0.heap.size W0 w') a3 w3 := by
  obtain ⟨ti, hti, ts, tb, tz⟩ := info5
  refine wp_seq (wp_region ?_)
  rw [dn7]
  have hrun := dr7 (some ⟨g, 0, none⟩) (d.length + 5) cap i by_
  have hn0 : (((d.length + 5 : Nat) : Int) == 0) = false := beq_eq_false_iff_ne.2 (by omega)
  rw [hn0, cond_false, cond_false] at hrun
  obtain ⟨j, hj, hjn⟩ := idxA_nat i (n := d.length + 5) (by omega) (by omega)
  rw [hj] at hrun
  refine ops_stand (frCall _) (qf := isSum ([] : Gam)) [] _ hrun (fun _ _ hj => take_at hj) (od37 ..) h3 _ fun a4 w4 h4 => ?_
  have hg4 : w4.heap[g]? = some (.cells cur 5 fz) := ((h4.keep.frame g hFg).2).trans hg
  have hcell : cur.toList[j]? = some (.int .u8 (l.getD j 0).toNat) := by
    have e := cellsL_at (l := l) (j := j) (by omega)
    rw [← hcur, List.getElem?_take, if_pos (by omega)] at e
    exact e
  have hcell4 : w4.cell? ⟨g, j, none⟩ = some (.int .u8 (l.getD j 0).toNat) := by
    simp only [World.cell?, hg4]
    simpa using hcell
  obtain ⟨t5, h5u, h5a⟩ := nagg (t := 5) (by kernel_rfl)
  refine index_stand dg7_11 (by omega) (ld37 ..) v38 hti h4 (b := ⟨g, 0, none⟩) (len := d.length + 5) (cap := cap) (i := j) (ik := .i64) (h4.eval (t := 27) rfl) (h4.eval (t := 37) rfl) hjn _ fun a5 h5 => ?_
  rw [addr_add, ts, Nat.zero_add, Nat.mul_one] at h5
  refine load_stand dg7_12 (by omega) (by rw [List.length_set]; exact ld37 ..) h5 (b := ⟨g, j, none⟩) (h5.eval (t := 38) rfl) (run_loadScalar h5u h5a hcell4) _ fun a6 h6 => ?_
  refine ops_stand (frCall _) (qf := isSum ([] : Gam)) [] _ (dr7b (some ⟨g, 0, none⟩) (d.length + 5) cap i by_ j (.pointer (some ⟨g, j, none⟩)) (l.getD j 0).toNat) (fun _ _ hj => mid_at hj) (od41 ..) h6 _ fun a7 w7 h7 => ?_
  have hg7 : w7.heap[g]? = some (.cells cur 5 fz) := ((h7.keep.frame g hFg).2).trans hg
  have hbt : (UInt8.ofNat by_).toNat = by_ := by rw [UInt8.toNat_ofNat']; omega
  have hxr : xorV .u8 ((l.getD j 0).toNat : Int) (by_ : Int) = (((l.getD j 0) ^^^ UInt8.ofNat by_).toNat : Int) := by
    rw [xor8 (l.getD j 0).toNat_lt hb, UInt8.toNat_xor, hbt]
  rw [hxr] at h7
  generalize hx : (l.getD j 0) ^^^ UInt8.ofNat by_ = x at h7
  refine turned_store h7 hg7 hcell hjn hcs hfz hFg fun a9 w9 o1 o2 o3 o4 o5 st1 h9 => ?_
  have L9 := L2.step h7 o1 o2 o3 o4 fun b hb => o5 b (by omega)
  refine turned_end (cur := cur.setIfInBounds j (.int .u8 x.toNat)) (l := l.set j x) L9 h9 (.inl hFg) st1 ?_ (by rw [List.length_set, hwl]) (by omega) ?_
  · rw [Array.toList_setIfInBounds, List.take_set, ← cellsL_set, hcur]
  · rw [← hl]
    refine turned_no (by rw [hl]; omega) ?_
    rw [hl, ← hx]
    refine xor_ne fun e => ?_
    have := congrArg UInt8.toNat e
    rw [hbt] at this
    have e0 : (0 : UInt8).toNat = 0 := rfl
    omega
/-- From the frame's bytes on. -/
theorem turned_tail {W0 wb : World} {F : Nat → Prop} {i : Int} {by_ k : Nat} {d : List UInt8} {act : Act} {w : World} (L : Live W0 F wb) (h : Stand F wb 51 (dV i by_ [(7, .string (bsL (wrapL k d)))]) act w) (hb0 : 0 < by_) (hb : by_ < 256) (hd : d.length ≤ 64) :
    (Code.seq (.region 6 dO6 false) (.seq (.region 7 dO7 false) (.seq (.region 8 dO8 false) dc9))).wp Try.prog (bodyPost Try.prog Try.f8 fun e w' => e = .returned (.bool true) ∧ RowKit.Below W0.heap.size W0 w') act w := by
  have hwl : (wrapL k d).length = d.length + 5 := by simp [wrapL, bodyL]
  generalize hl : wrapL k d = l at h hwl
  have hsz := size_bsL l
  refine wp_seq (wp_region ?_)
  rw [dn6]
  refine move_stand dg6_0 (by omega) (ld7 ..) h (v := .string (bsL l)) (h.eval (t := 7) rfl) _ fun a1 h1 => ?_
  refine op_world dg6_1 (by omega) (by rw [List.length_set]; exact ld7 ..) h1 (v := .slice (some ⟨w.heap.size, 0, none⟩) (bsL l).size (grownCap w (bsL l).size 0 5)) (w' := Lib.bytesWorld w 5 (bsL l)) (fun o ho => ?_) (by rw [Lib.bytesWorld_size]; omega) (fun j hj _ => Lib.bytesWorld_at_old w 5 (bsL l) j hj) _ fun a2 h2 => ?_
  · have hx : a1.eval (.tmp 25) = .string (bsL l) := h1.eval (t := 25) rfl
    simp only [execOp, ho, hx, Sem.run_bind, Lib.run_convert_string_bytes w 9 38 5 (bsL l) v9 v38 v5, Result.andThen_ok, Sem.run_pure]
  obtain ⟨z1, z2, z3⟩ := bytesWorld_kept w 5 (bsL l)
  have L2 := L.step h1 z1 z2 z3 (by rw [Lib.bytesWorld_size]; omega) fun j hj => Lib.bytesWorld_at_old w 5 (bsL l) j (by have := L.size h1; omega)
  obtain ⟨cur, fz, hg, hcs, hfz, hcur⟩ := bytes_there w (bsL l)
  rw [data_bsL] at hcur
  have hws : (Lib.bytesWorld w 5 (bsL l)).heap.size = w.heap.size + 1 := Lib.bytesWorld_size ..
  have hFg : Wide F w (Lib.bytesWorld w 5 (bsL l)) w.heap.size := .inr ⟨Nat.le_refl _, by omega⟩
  generalize hcap : grownCap w (bsL l).size 0 5 = cap at h2
  generalize Wide F w (Lib.bytesWorld w 5 (bsL l)) = F2 at h2 L2 hFg
  generalize Lib.bytesWorld w 5 (bsL l) = w2 at h2 L2 hg hws
  have hgW := L.size h1
  generalize w.heap.size = g at h2 hg hws hFg hgW
  rw [hsz, hwl] at h2
  refine ops_stand (frCall _) (qf := isSum ([] : Gam)) [] _ (dr6 (bsL l) (some ⟨g, 0, none⟩) (d.length + 5) cap i by_) (fun _ _ hj => drop_at hj) (od9 ..) h2 [] fun a3 w3 h3 => ?_
  exact turned_mid L2 h3 hFg hg hgW hl hwl (by rw [← hcur, hsz, hwl]) (by omega) hfz hb0 hb hd
theorem FrameTurned_calls (k : Int) (s : ByteArray) (i b : Int) (_ : (Lit.int .i64 k).wf = true) (_ : s.size ≤ maxLen) (_ : (Lit.int .i64 i).wf = true) (hb : (Lit.int .u8 b).wf = true) (w : World) : Calls Try.prog 8 #[.agg #[.int .i64 k, .string s], .int .i64 i, .int .u8 b] w fun e w' => e = .returned (.bool true) ∧ RowKit.Below w.heap.size w w' := by
  have hb8 : 0 ≤ b ∧ b < 256 := by
    simp only [Lit.wf, Bool.and_eq_true, decide_eq_true_eq] at hb
    have e1 : IntKind.u8.min = 0 := rfl
    have e2 : IntKind.u8.max = 255 := rfl
    rw [e1, e2] at hb
    omega
  obtain ⟨n, rfl⟩ : ∃ n : Nat, b = n := ⟨b.toNat, by omega⟩
  refine calls_of_wp f8_is dC_is ?_
  have hst := Stand.start (N := 51) [.agg #[.int .i64 k, .string s], .int .i64 i, .int .u8 n] w 4096 frH frT (by simp)
  have L := Live.start w
  refine wp_seq ((runs_drop dCall _ _ (dr0 (fun _ => true) (fun p => wrapV p.1) szOk (fun p => openV p.1) s k i n)).stand (od0 ..) hst fun a1 w1 h1 => ?_)
  have hrun := dr1 (fun _ => true) (fun p => wrapV p.1) szOk (fun p => openV p.1) s k i n
  rw [Bool.not_true, cond_false] at hrun
  refine wp_seq ((runs_drop dCall _ _ hrun).stand (od0 ..) h1 fun a2 w2 h2 => ?_)
  refine wp_seq ((runs_drop dCall _ _ (dr3 (fun _ => true) (fun p => wrapV p.1) szOk (fun p => openV p.1) s k i n)).stand (od3 ..) h2 fun a3 w3 h3 => ?_)
  have hrun := dr4 (fun _ => true) (fun p => wrapV p.1) szOk (fun p => openV p.1) (wrapV ⟨k, s⟩).a i n (wrapV ⟨k, s⟩).b
  have stop : ∀ a4 w4, Stand (fun k => k < w.heap.size) w 51 (dV i n [(6, .bool true), (7, .string (wrapV ⟨k, s⟩).a)]) a4 w4 → bodyPost Try.prog Try.f8 (fun e w' => e = .returned (.bool true) ∧ RowKit.Below w.heap.size w w') .ret a4 w4 := by
    intro a4 w4 h4
    obtain ⟨y1, y2, y3⟩ := h4.results (P := Try.prog) (fn := Try.f8) (dR6 ..)
    exact bodyPost_ret y1 y2 ⟨rfl, (L.chain _ y3).below⟩
  by_cases h : 0 ≤ k ∧ k ≤ 255 ∧ s.size ≤ 64
  · obtain ⟨m, rfl⟩ : ∃ m : Nat, k = m := ⟨k.toNat, by omega⟩
    have hw := wrapV_good (k := m) (s := s) (by omega) h.2.2
    rw [hw] at hrun stop
    dsimp only at hrun stop
    have h3 : Stand (fun k => k < w.heap.size) w 51 (dV i n [(7, .string (bsL (wrapL m s.data.toList))), (8, .bool true)]) a3 w3 := by
      have : wrapV ((⟨m, s⟩ : Fr), ()).1 = ⟨bsL (wrapL m s.data.toList), true⟩ := hw
      rw [this] at h3
      exact h3
    rw [Bool.not_true, cond_false] at hrun
    simp only [cond_false] at hrun
    by_cases h0 : n = 0
    · subst h0
      rw [show (((0 : Nat) : Int) == 0) = true from rfl, cond_true] at hrun
      exact wp_seq ((runs_drop dCall _ _ hrun).stand (od6 ..) h3 fun a4 w4 h4 => stop a4 w4 h4)
    · rw [show ((n : Int) == 0) = false from beq_eq_false_iff_ne.2 (by omega), cond_false] at hrun
      refine wp_seq ((runs_drop dCall _ _ hrun).stand (od7 ..) h3 fun a4 w4 h4 => ?_)
      have hdl : s.data.toList.length = s.size := rfl
      exact turned_tail L h4 (by omega) (by omega) (by omega)
  · have hw : (wrapV ⟨k, s⟩).b = false := by
      unfold wrapV
      dsimp only
      by_cases c1 : k < 0
      · rw [decide_eq_true c1]; rfl
      by_cases c2 : k > 255
      · rw [decide_eq_false c1, decide_eq_true c2]; rfl
      have c3 : (s.size : Int) > 64 := by omega
      rw [decide_eq_false c1, decide_eq_false c2, decide_eq_true c3]; rfl
    rw [hw, Bool.not_false, cond_true] at hrun
    have h3 : Stand (fun k => k < w.heap.size) w 51 (dV i n [(7, .string (wrapV ⟨k, s⟩).a), (8, .bool false)]) a3 w3 := by
      rw [← hw]
      exact h3
    exact wp_seq ((runs_drop dCall _ _ hrun).stand (od6 ..) h3 fun a4 w4 h4 => stop a4 w4 h4)
end Go.Ab
