/- A part of the proof of 'FrameOpens': lemmas, no statement of their own; no condition. -/
import Derived.Test.YtanilhagglikjaaMaD
/- An element of foreign memory: its address, and what lies there. -/
namespace Go.Ab
open Go
def seqL : Code → Code | .seq a _ => a | c => c
def seqR : Code → Code | .seq _ b => b | c => c
def inB : Code → Code | .block _ c => c | .loop c => c | c => c
def ifT : Code → Code | .cond _ a _ => a | c => c
def ifE : Code → Code | .cond _ _ b => b | c => c
def regO : Code → Array Oper | .region _ ops _ => ops | _ => #[]
/-- What an operation is. -/
def sigOf (ops : Array Oper) (k : Nat) : Option (Op × Option Nat × Bool) := (ops[k]?).map fun o => (o.op, o.dst, o.guard.isNone)
theorem sigOf_some {ops : Array Oper} {k : Nat} {op : Op} {d : Option Nat} (h : sigOf ops k = some (op, d, true)) : ∃ o, ops[k]? = some o ∧ o.op = op ∧ o.dst = d ∧ o.guard = none := by
  unfold sigOf at h
  cases ho : ops[k]? with
  | none => rw [ho] at h; cases h
  | some o =>
    rw [ho] at h
    simp only [Option.map_some, Option.some.injEq, Prod.mk.injEq, Option.isNone_iff_eq_none] at h
    exact ⟨o, rfl, h.1, h.2.1, h.2.2⟩
theorem run_loadScalar {P : Program} {w : World} {t : TypeId} {d : TypeDesc} {a : Addr} {v : Value} (hd : P.underlying t = some d) (hagg : isAggD d = false) (hc : w.cell? a = some v) : (loadVar t a).run P w = .ok v w := by
  unfold loadVar
  rw [Sem.run_bind, run_isAgg hd w, hagg]
  simp only [Result.andThen_ok, Bool.false_eq_true, if_false, run_load, hc]
section
variable {P : Program} {N : Nat} {ops : Array Oper} {Q : Exit → Act → World → Prop} {F : Nat → Prop} {w0 : World} {s : St} {a : Act} {w : World}
theorem move_stand {k d : Nat} {x : Operand} (hs : sigOf ops k = some (.move x, some d, true)) (hd : d < N) (hlen : s.tmps.length = N) (hh : Stand F w0 N s a w) {v : Value} (hx : a.eval x = v) (rest : List Nat)
    (hK : ∀ a', Stand F w0 N { s with tmps := s.tmps.set d (.val v) } a' w → wpOps P ops Q rest a' w) : wpOps P ops Q (k :: rest) a w := by
  obtain ⟨o, ho, hop, hdst, hg⟩ := sigOf_some hs
  exact op_stand ho hg hdst hd hlen hh (by simp only [execOp, hop, hx, Sem.run_pure]) rest hK
theorem assign_stand {k d : Nat} {x : Operand} (hs : sigOf ops k = some (.assign x, some d, true)) (hd : d < N) (hlen : s.tmps.length = N) (hh : Stand F w0 N s a w) {v : Value} (hx : a.eval x = v) (rest : List Nat)
    (hK : ∀ a', Stand F w0 N { s with tmps := s.tmps.set d (.val v) } a' w → wpOps P ops Q rest a' w) : wpOps P ops Q (k :: rest) a w := by
  obtain ⟨o, ho, hop, hdst, hg⟩ := sigOf_some hs
  exact op_stand ho hg hdst hd hlen hh (by simp only [execOp, hop, hx, Sem.run_pure]) rest hK
theorem index_stand {k d : Nat} {t elem : TypeId} {x ix : Operand} {ti : TypeInfo} (hs : sigOf ops k = some (.indexAddr t x ix, some d, true)) (hd : d < N) (hlen : s.tmps.length = N) (hu : P.underlying t = some (.slice elem)) (hi : P.info? elem = some ti)
    (hh : Stand F w0 N s a w) {b : Addr} {len cap i : Nat} {ik : IntKind} (hx : a.eval x = .slice (some b) len cap) (hix : a.eval ix = .int ik i) (hlt : i < len) (rest : List Nat)
    (hK : ∀ a', Stand F w0 N { s with tmps := s.tmps.set d (.val (.pointer (some (b.add (i * ti.size))))) } a' w → wpOps P ops Q rest a' w) : wpOps P ops Q (k :: rest) a w := by
  obtain ⟨o, ho, hop, hdst, hg⟩ := sigOf_some hs
  refine op_stand ho hg hdst hd hlen hh (v := .pointer (some (b.add (i * ti.size)))) ?_ rest hK
  have hb : 0 ≤ (i : Int) ∧ (i : Int) < (len : Int) := by omega
  simp only [execOp, hop, Instr.indexAt, hix, asIntOf, Sem.run_bind, run_underlying hu, Result.andThen_ok, hx, Sem.run_pure, Sem.run_ite, if_pos hb, run_sizeOf hi, Int.toNat_natCast]
theorem load_stand {k d : Nat} {t : TypeId} {x : Operand} (hs : sigOf ops k = some (.load t x, some d, true)) (hd : d < N) (hlen : s.tmps.length = N) (hh : Stand F w0 N s a w) {b : Addr} (hx : a.eval x = .pointer (some b)) {v : Value} (hv : (loadVar t b).run P w = .ok v w) (rest : List Nat)
    (hK : ∀ a', Stand F w0 N { s with tmps := s.tmps.set d (.val v) } a' w → wpOps P ops Q rest a' w) : wpOps P ops Q (k :: rest) a w := by
  obtain ⟨o, ho, hop, hdst, hg⟩ := sigOf_some hs
  refine op_stand ho hg hdst hd hlen hh ?_ rest hK
  simp only [execOp, hop, Instr.loadAt, hx, Instr.sureAddr, Sem.run_bind, Sem.run_pure, Result.andThen_ok, hv]
end
end Go.Ab
