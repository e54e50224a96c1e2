/- A part of the proof of 'FrameOpens': lemmas, no statement of their own; no condition. -/
import Derived.Test.YtanilhagglikjaaFrS
/- awake: a frame is found again. -/
namespace Go.Ab
open Go Go.Proofs
noncomputable def aC : Code := Try.f11.body.getD .skip
noncomputable def ac0 : Code := seqL aC
noncomputable def ac1 : Code := seqL (seqR aC)
noncomputable def aO2 : Array Oper := regO (seqL (seqR (seqR aC)))
noncomputable def aO3 : Array Oper := regO (seqL (seqR (seqR (seqR aC))))
theorem aC_is : Try.f11.body = some (.seq ac0 (.seq ac1 (.seq (.region 2 aO2 false) (.seq (.region 3 aO3 false) .ret)))) := by kernel_rfl
theorem aN : Try.f11.ntmps = 40 := by kernel_rfl
def awG (g : Fr × Unit → Two ByteArray Bool) : Gam := [(12, S0w (fun _ => true) g)]
def abF : Fr := ⟨1, ⟨#[97, 98]⟩⟩
theorem ar0 (g : Fr × Unit → Two ByteArray Bool) : frRun (awG g) 40 ac0 ⟨([] : List Value).map .val ++ List.replicate (40 - ([] : List Value).length) (.val undef), [], 4096, frH, frT, []⟩ [] [] = some (.normal, mkSt 40 [] [] [] [] [] 4096 frH frT) := by kernel_rfl
theorem ar1 (g : Fr × Unit → Two ByteArray Bool) : frRun (awG g) 40 ac1 (mkSt 40 [] [] [] [] [] 4096 frH frT) [] [1, 2] = some (.normal, mkSt 40 [1, 2] [.string (g (abF, ())).a, .bool (g (abF, ())).b] [] [] [] 4096 frH frT) := by kernel_rfl
theorem ar2 (z : ByteArray) (b : Bool) : frOps 40 aO2 (aO2.toList.take 3) (mkSt 40 [1, 2] [.string z, .bool b] [] [] [] 4096 frH frT) [] [2, 14] =
    bif decide ((((⟨#[120]⟩ : ByteArray).size + z.size : Nat) : Int) > 9223372036854775807) then none else bif decide ((((⟨#[120]⟩ ++ z : ByteArray).size + (⟨#[165]⟩ : ByteArray).size : Nat) : Int) > 9223372036854775807) then none else
      some (true, mkSt 40 [2, 14] [.bool b, .string (⟨#[120]⟩ ++ z ++ ⟨#[165]⟩)] [] [] [] 4096 frH frT) := by kernel_rfl
theorem ar2b (y : ByteArray) (b : Bool) (a : Option Addr) (n c : Nat) (r : ByteArray) (o : Int) : frOps 40 aO2 (aO2.toList.drop 4) { mkSt 40 [2, 14] [.bool b, .string y] [] [] [] 4096 frH frT with tmps := (mkSt 40 [2, 14] [.bool b, .string y] [] [] [] 4096 frH frT).tmps.set 15 (.val (.tuple #[.slice a n c, .string r, .int .i64 o])) } [] [2, 3, 4, 5] =
    some (true, mkSt 40 [2, 3, 4, 5] [.bool b, .slice a n c, .string r, .int .i64 o] [] [] [] 4096 frH frT) := by kernel_rfl
def aS3 (a : Option Addr) (c : Nat) : St := mkSt 40 [2, 3, 4, 5] [.bool true, .slice a 1 c, .string ⟨#[165]⟩, .int .i64 1] [] [] [] 4096 frH frT
def aS4 (a : Option Addr) (c : Nat) : St := mkSt 40 [25, 26, 4, 5] [.bool true, .slice a 1 c, .string ⟨#[165]⟩, .int .i64 1] [] [] [] 4096 frH frT
theorem ar3 (a : Option Addr) (c : Nat) : frOps 40 aO3 (aO3.toList.take 8) (aS3 a c) [] [25, 26, 4, 5] = some (true, aS4 a c) := by kernel_rfl
theorem ar3b (a : Option Addr) (c : Nat) (p : Value) : frOps 40 aO3 (aO3.toList.drop 10) { aS4 a c with tmps := ((aS4 a c).tmps.set 27 (.val p)).set 28 (.val (.agg #[.int .i64 1, .string ⟨#[97, 98]⟩])) } [] [0] = some (true, mkSt 40 [0] [.bool true] [] [] [] 4096 frH frT) := by kernel_rfl
/-- A guarded operation that is wanted. -/
def sigG (ops : Array Oper) (k : Nat) : Option (Op × Option Nat × Option (Nat × Bool)) := (ops[k]?).map fun o => (o.op, o.dst, o.guard)
theorem op_guard {P : Program} {N : Nat} {ops : Array Oper} {Q : Exit → Act → World → Prop} {F : Nat → Prop} {w0 : World} {s : St} {a : Act} {w : World} {k d g t : Nat} {op : Op} {want : Bool} (hs : sigG ops k = some (op, some d, some (g, want))) (hgd : (ops[g]?).bind (·.dst) = some t) (hgt : s.tmps[t]? = some (.val (.bool want)))
    (hd : d < N) (hlen : s.tmps.length = N) (hh : Stand F w0 N s a w) {v : Value} (hrun : ∀ o : Oper, o.op = op → (execOp a.eval o).run P w = .ok (.value v) w) (rest : List Nat)
    (hK : ∀ a', Stand F w0 N { s with tmps := s.tmps.set d (.val v) } a' w → wpOps P ops Q rest a' w) : wpOps P ops Q (k :: rest) a w := by
  obtain ⟨o, ho, hop, hdst, hg⟩ : ∃ o, ops[k]? = some o ∧ o.op = op ∧ o.dst = some d ∧ o.guard = some (g, want) := by
    unfold sigG at hs
    cases ho : ops[k]? with
    | none => rw [ho] at hs; cases hs
    | some o =>
      rw [ho] at hs
      simp only [Option.map_some, Option.some.injEq, Prod.mk.injEq] at hs
      exact ⟨o, rfl, hs.1, hs.2.1, hs.2.2⟩
  rw [wpOps_cons]
  unfold wpOp
  rw [ho]
  simp only
  have hy := yielded_of hgd (hh.get hgt)
  rw [if_pos (by simp [Region.wanted, hg, hy])]
  refine .inl ?_
  unfold Oper.wp
  rw [hrun o hop, Oper.upon_value, hdst]
  exact hK _ (hh.put hd hlen v)
def cScan : Call := { callee := .value (.func 16), args := #[.tmp 14], argTypes := #[9] }
theorem aw2_3 : sigOf aO2 3 = some (.call cScan, some 15, true) := by kernel_rfl
theorem aw2_n : List.range aO2.size = (List.range (aO2.toList.take 3).length).map (0 + ·) ++ (3 :: ((List.range (aO2.toList.drop 4).length).map (4 + ·) ++ [])) := by kernel_rfl
theorem aw3_8 : sigG aO3 8 = some (.indexAddr 33 (.tmp 26) (.const (.int .i64 (Int.ofNat 0))), some 27, some (6, true)) := by kernel_rfl
theorem aw3_9 : sigG aO3 9 = some (.load 26 (.tmp 27), some 28, some (6, true)) := by kernel_rfl
theorem aw3_g : (aO3[6]?).bind (·.dst) = some 25 := by kernel_rfl
theorem aw3_n : List.range aO3.size = (List.range (aO3.toList.take 8).length).map (0 + ·) ++ (8 :: 9 :: ((List.range (aO3.toList.drop 10).length).map (10 + ·) ++ [])) := by kernel_rfl
theorem f16_on : (Try.f16.body.isSome && !Try.f16.name == "runtime.NumGoroutine") = true := by kernel_rfl
theorem f11_is : Try.prog.funcs[11]? = some Try.f11 := by kernel_rfl
theorem oA0 : okNamed (mkSt 40 [] [] [] [] [] 4096 frH frT) = true := by kernel_rfl
theorem oA1 (z : ByteArray) (b : Bool) : okNamed (mkSt 40 [1, 2] [.string z, .bool b] [] [] [] 4096 frH frT) = true := by kernel_rfl
theorem oA2 (z : ByteArray) (b : Bool) : okNamed (mkSt 40 [2, 14] [.bool b, .string z] [] [] [] 4096 frH frT) = true := by kernel_rfl
theorem oA3 (a : Option Addr) (n c : Nat) (b : Bool) (z : ByteArray) (o : Int) : okNamed (mkSt 40 [2, 3, 4, 5] [.bool b, .slice a n c, .string z, .int .i64 o] [] [] [] 4096 frH frT) = true := by kernel_rfl
theorem oA4 (a : Option Addr) (c : Nat) : okNamed (aS4 a c) = true := by kernel_rfl
theorem oA5 : okNamed (mkSt 40 [0] [.bool true] [] [] [] 4096 frH frT) = true := by kernel_rfl
theorem lA2 (z : ByteArray) (b : Bool) : (mkSt 40 [2, 14] [.bool b, .string z] [] [] [] 4096 frH frT).tmps.length = 40 := by kernel_rfl
theorem lA4 (a : Option Addr) (c : Nat) : (aS4 a c).tmps.length = 40 := by kernel_rfl
theorem rA : resA Try.prog (mkSt 40 [0] [.bool true] [] [] [] 4096 frH frT) Try.f11.results.toList = some [.val (.bool true)] := by kernel_rfl
theorem aw_wrap : wrapV abF = ⟨bsL (wrapL 1 [97, 98]), true⟩ := by kernel_rfl
theorem aw_scan : scanV ([120] ++ wrapL 1 [97, 98] ++ [165]) = ([abF], [165], 1) := by kernel_rfl
theorem awCall (g : Fr × Unit → Two ByteArray Bool) (h : SumOk Try.prog 12 (S0w (fun _ => true) g)) : ∀ β, CallOk Try.prog (callN Try.prog { gam := awG g } 1 β) := callN_ok (E := { gam := awG g }) (.cons h .nil) 1
theorem awake_calls (w : World) : Calls Try.prog 11 #[] w fun e w' => ∃ v, e = .returned v ∧ RowKit.Below w.heap.size w w' ∧ v = .bool true := by
  obtain ⟨ti, hti, ts, tb, tz⟩ := info26
  obtain ⟨td, htd, hag⟩ : ∃ td, Try.prog.underlying 26 = some td ∧ isAggD td = true := by
    have := und26
    cases h : Try.prog.underlying 26 with
    | none => rw [h] at this; cases this
    | some td => rw [h] at this; exact ⟨td, rfl, by simpa using this⟩
  refine calls_of_wp f11_is aC_is ?_
  have hst := Stand.start (N := 40) [] w 4096 frH frT (by simp)
  have L := Live.start w
  have hcl := awCall _ okWrap
  refine wp_seq ((runs_drop hcl _ _ (ar0 fun p => wrapV p.1)).stand oA0 hst fun a1 w1 h1 => ?_)
  refine wp_seq ((runs_drop hcl _ _ (ar1 fun p => wrapV p.1)).stand (oA1 ..) h1 fun a2 w2 h2 => ?_)
  rw [aw_wrap] at h2
  refine wp_seq (wp_region ?_)
  rw [aw2_n]
  have hrun := ar2 (bsL (wrapL 1 [97, 98])) true
  have e1 : (⟨#[120]⟩ : ByteArray) = bsL [120] := rfl
  have e2 : (⟨#[165]⟩ : ByteArray) = bsL [165] := rfl
  have hwl : (wrapL 1 [97, 98]).length = 7 := rfl
  rw [e1, e2, bsL_append, bsL_append, size_bsL, size_bsL, size_bsL, size_bsL, hwl, decide_eq_false (by simp), decide_eq_false (by simp [hwl]), cond_false, cond_false] at hrun
  refine ops_stand (frCall _) (qf := isSum ([] : Gam)) [] _ hrun (fun _ _ hj => take_at hj) (oA2 ..) h2 _ fun a3 w3 h3 => ?_
  have hx : a3.eval (.tmp 14) = .string (bsL ([120] ++ wrapL 1 [97, 98] ++ [165])) := h3.eval (t := 14) rfl
  refine call_world aw2_3 (by omega) (lA2 ..) h3 rfl f16_is f16_on (args := #[.string (bsL ([120] ++ wrapL 1 [97, 98] ++ [165]))]) (by simp [cScan, hx]) (scan_calls _ (by rw [size_bsL]; simp [hwl]) w3) _ fun v a4 w4 hv hb h4 => ?_
  rw [data_bsL, aw_scan] at hv
  obtain ⟨a, c, rfl, hown⟩ := hv
  have L4 := L.step h3 hb.os hb.tape hb.output hb.size fun j hj => hb.block j (by have := L.size h3; omega)
  obtain ⟨g, cur, rfl, hg1, hg2, hg3⟩ : ∃ g cur, a = some ⟨g, 0, none⟩ ∧ w3.heap.size ≤ g ∧ w4.heap[g]? = some (.cells cur 26 (0, 0)) ∧ cur.toList.take 2 = frCells abF := by
    rcases hown.2 with ⟨_, h0⟩ | ⟨g, c', cur, e1, e2, e3, _, _, _, e5⟩
    · cases h0
    · cases e1
      exact ⟨g, cur, rfl, e2, e3, e5⟩
  have Fg : Wide (fun k => k < w.heap.size) w3 w4 g := .inr ⟨hg1, row_lt hg2⟩
  refine ops_stand (frCall _) (qf := isSum ([] : Gam)) [] _ (ar2b _ true (some ⟨g, 0, none⟩) 1 c (bsL [165]) 1) (fun _ _ hj => drop_at hj) (oA3 ..) h4 [] fun a5 w5 h5 => ?_
  refine wp_seq (wp_region ?_)
  rw [aw3_n]
  refine ops_stand (frCall _) (qf := isSum ([] : Gam)) [] _ (ar3 (some ⟨g, 0, none⟩) c) (fun _ _ hj => take_at hj) (oA4 ..) h5 _ fun a6 w6 h6 => ?_
  have hg6 : w6.heap[g]? = some (.cells cur 26 (0, 0)) := ((h6.keep.frame g Fg).2).trans hg2
  refine op_guard aw3_8 aw3_g rfl (by omega) (lA4 ..) h6 (v := .pointer (some ⟨g, 0, none⟩)) (fun o ho => ?_) _ fun a7 h7 => ?_
  · have hx : a6.eval (.tmp 26) = .slice (some ⟨g, 0, none⟩) 1 c := h6.eval (t := 26) rfl
    have hc : a6.eval (.const (.int .i64 (Int.ofNat 0))) = .int .i64 0 := rfl
    have hb : (0 : Int) ≤ 0 ∧ (0 : Int) < ((1 : Nat) : Int) := by omega
    simp only [execOp, ho, Instr.indexAt, hc, asIntOf, Sem.run_bind, run_underlying v33, Result.andThen_ok, hx, Sem.run_pure, Sem.run_ite, if_pos hb, run_sizeOf hti]
    rw [show Int.toNat 0 * ti.size = 0 by simp]
    rfl
  refine op_guard aw3_9 aw3_g rfl (by omega) (by rw [List.length_set]; exact lA4 ..) h7 (v := .agg #[.int .i64 1, .string ⟨#[97, 98]⟩]) (fun o ho => ?_) _ fun a8 h8 => ?_
  · have hx : a7.eval (.tmp 27) = .pointer (some ⟨g, 0, none⟩) := h7.eval (t := 27) rfl
    have hc := run_loadCells_row (P := Try.prog) w6 g 0 ti.size 26 (0, 0) cur.toList (frCells abF) hg6 (by rw [List.drop_zero, ts]; exact hg3) (by rw [ts]; rfl)
    have hld : (loadVar 26 ⟨g, 0, none⟩).run Try.prog w6 = .ok (.agg (List.toArray (frCells abF))) w6 := by
      unfold loadVar
      rw [Sem.run_bind, run_isAgg htd w6, hag]
      simp only [Result.andThen_ok, if_true, Sem.run_bind, run_sizeOf hti w6, hc, Sem.run_pure]
    simp only [execOp, ho, Instr.loadAt, hx, Instr.sureAddr, Sem.run_bind, Sem.run_pure, Result.andThen_ok, hld]
    rfl
  refine ops_stand (frCall _) (qf := isSum ([] : Gam)) [] _ (ar3b (some ⟨g, 0, none⟩) c _) (fun _ _ hj => drop_at hj) oA5 h8 [] fun a9 w9 h9 => ?_
  obtain ⟨y1, y2, y3⟩ := h9.results (P := Try.prog) (fn := Try.f11) rA
  exact wp_ret (bodyPost_ret y1 y2 ⟨_, rfl, (L4.chain _ y3).below, rfl⟩)
theorem okAwake : SumOk Try.prog 11 (S0w (fun (_ : Unit) => true) fun _ => true) := S0w_of fun _ w _ => awake_calls w
end Go.Ab
