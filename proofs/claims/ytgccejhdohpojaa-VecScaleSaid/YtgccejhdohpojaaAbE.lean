/- A part of the proof of 'VecScale': lemmas, no statement of their own; no condition. -/
import Derived.Test.YtgccejhdohpojaaAbD
namespace Go.Ab
variable {β : Type}

def stU (tmps : List AV) (heap : Hp) : U
  | .tmp t => (tmps[t]?).map .av
  | .blk b => hget heap b

def Good (tmps : List AV) (heap : Hp) (rd : Wr) : Prop := ∀ x ∈ rd, stU tmps heap x.1 = some x.2

theorem good_rdOf (tmps : List AV) (heap : Hp) (x : Operand) : Good tmps heap (rdOf tmps x) := by
  intro p hp
  unfold rdOf at hp
  split at hp
  · split at hp
    · rename_i a h; simp at hp; subst hp; simp [stU, h]
    · cases hp
  · cases hp
theorem good_rdAll (tmps : List AV) (heap : Hp) (o : Oper) : Good tmps heap (rdAll tmps o) := by
  intro p hp
  obtain ⟨x, _, hx⟩ := List.mem_flatMap.1 hp
  exact good_rdOf tmps heap x p hx
theorem Good.append {tmps : List AV} {heap : Hp} {a b : Wr} (h : Good tmps heap a) (k : Good tmps heap b) : Good tmps heap (a ++ b) :=
  fun x hx => (List.mem_append.1 hx).elim (h x) (k x)
theorem Good.cons {tmps : List AV} {heap : Hp} {b : Nat} {c : Con} {rd : Wr} (h : hget heap b = some c) (k : Good tmps heap rd) : Good tmps heap ((.blk b, c) :: rd) :=
  fun x hx => (List.mem_cons.1 hx).elim (fun e => by subst e; exact h) (k x)

/-- What each lemma on an operation says. -/
def Done (P : Program) (N : Nat) (ops : Array Oper) (i : Nat) (tmps : List AV) (heap : Hp) (lo hi : Nat) (K : Wr → Wr → Option β) (res : β) : Prop :=
  ∃ rd wr, K rd wr = some res ∧ Good tmps heap rd ∧ Exec P N ops i rd wr lo hi

def Want (N : Nat) (ops : Array Oper) (o : Oper) (rd : Wr) : Prop :=
  ∀ w0 own σ u a w, Fits N w0 own σ u a w → (∀ x ∈ rd, u x.1 = some x.2) → Region.wanted o (yielded ops a.tmps) = true

section
variable {P : Program} {N : Nat} {ops : Array Oper} {i : Nat} {tmps : List AV} {heap : Hp} {o : Oper} {rd : Wr} {lo hi : Nat} {K : Wr → Wr → Option β} {res : β}

theorem fin_done {r : AV} (ho : ops[i]? = some o) (hw : Want N ops o rd) (hg : Good tmps heap rd) (h : fin N o rd r [] K = some res)
    (hrun : ∀ w0 own σ u a w, Fits N w0 own σ u a w → (∀ x ∈ rd, u x.1 = some x.2) → ∃ x, (execOp a.eval o).run P w = .ok (.value x) w ∧ Rel σ r x) : Done P N ops i tmps heap lo hi K res := by
  obtain ⟨rd', wr, h1, rfl, h2⟩ := fin_quiet (P := P) (lo := lo) (hi := hi) ho h hw hrun
  exact ⟨rd', wr, h1, hg, h2⟩

theorem opVal_done (ho : ops[i]? = some o) (hw : Want N ops o rd) (hg : Good tmps heap rd) (hsub : ∀ p ∈ rdAll tmps o, p ∈ rd) (h : opVal P N tmps o rd K = some res) : Done P N ops i tmps heap lo hi K res := by
  unfold opVal at h
  split at h
  · rename_i hc
    simp only [Bool.and_eq_true] at hc
    split at h
    · rename_i v hv
      refine fin_done ho hw hg h fun w0 own σ u a w hf hr => ⟨v, ?_, by simp [Rel]⟩
      rw [exec_val hf (fun p hp => hr p (hsub p hp)) hc.1 hc.2]
      exact evalSem_run hv w
    · cases h
  · cases h

theorem opMove_done {x : Operand} (hop : o.op = .move x ∨ o.op = .assign x) (ho : ops[i]? = some o) (hw : Want N ops o rd) (hg : Good tmps heap rd) (hsub : ∀ p ∈ rdAll tmps o, p ∈ rd) (h : opMove N tmps o rd x K = some res) : Done P N ops i tmps heap lo hi K res := by
  unfold opMove at h
  split at h
  · rename_i a ha
    refine fin_done ho hw hg h fun w0 own σ u a' w hf hr => ⟨a'.eval x, ?_, ?_⟩
    · rcases hop with e | e <;> simp [execOp, e]
    · refine opd_rel hf (fun p hp => hr p (hsub p ?_)) ha
      refine List.mem_flatMap.2 ⟨x, ?_, hp⟩
      rcases hop with e | e <;> simp [e, Op.operands]
  · cases h

theorem mem_rdAll {x : Operand} (hx : x ∈ o.op.operands) (hsub : ∀ p ∈ rdAll tmps o, p ∈ rd) {u : U} (hr : ∀ p ∈ rd, u p.1 = some p.2) : ∀ p ∈ rdOf tmps x, u p.1 = some p.2 :=
  fun p hp => hr p (hsub p (List.mem_flatMap.2 ⟨x, by simpa using hx, hp⟩))

theorem opNil_done {x : Operand} (hop : o.op = .nilCheck x) (ho : ops[i]? = some o) (hw : Want N ops o rd) (hg : Good tmps heap rd) (hsub : ∀ p ∈ rdAll tmps o, p ∈ rd) (h : opNil N tmps o rd x K = some res) : Done P N ops i tmps heap lo hi K res := by
  have hx : x ∈ o.op.operands := by simp [hop, Op.operands]
  unfold opNil at h
  split at h
  · rename_i b f ha
    refine fin_done ho hw hg h fun w0 own σ u a' w hf hr => ?_
    have := opd_rel hf (mem_rdAll hx hsub hr) ha
    refine ⟨a'.eval x, ?_, this⟩
    simp only [Rel] at this
    obtain ⟨r, _, e⟩ := this
    simp [execOp, hop, e]
  · rename_i f fs cs ha
    refine fin_done ho hw hg h fun w0 own σ u a' w hf hr => ?_
    have := opd_rel hf (mem_rdAll hx hsub hr) ha
    refine ⟨a'.eval x, ?_, this⟩
    simp only [Rel] at this
    obtain ⟨xs, ys, e, _⟩ := this
    simp [execOp, hop, e]
  · cases h

theorem addr_add (r off n : Nat) : (⟨r, off, none⟩ : Addr).add n = ⟨r, off + n, none⟩ := by
  unfold Addr.add
  split
  · simp_all
  · rfl

theorem opField_done {s : TypeId} {x : Operand} {f : Nat} (hop : o.op = .fieldAddr s x f) (ho : ops[i]? = some o) (hw : Want N ops o rd) (hg : Good tmps heap rd) (hsub : ∀ p ∈ rdAll tmps o, p ∈ rd) (h : opField P N tmps o rd s x f K = some res) : Done P N ops i tmps heap lo hi K res := by
  have hx : x ∈ o.op.operands := by simp [hop, Op.operands]
  unfold opField at h
  split at h
  · rename_i b off fs ha hu
    split at h
    · rename_i fd hfd
      split at h
      · rename_i ti hi'
        split at h
        · cases h
        · rename_i hz
          have hz : ¬ ti.size = 0 := of_decide_eq_false hz
          refine fin_done ho hw hg h fun w0 own σ u a' w hf hr => ?_
          have := opd_rel hf (mem_rdAll hx hsub hr) ha
          simp only [Rel] at this
          obtain ⟨r, h1, e⟩ := this
          refine ⟨.pointer (some ⟨r, off + fd.offset, none⟩), ?_, by simp only [Rel]; exact ⟨r, h1, rfl⟩⟩
          simp only [execOp, hop, Instr.fieldAt, Sem.run_bind, run_underlying hu, Result.andThen_ok, hfd, e, Instr.sureAddr, Sem.run_pure, fieldPlace, run_sizeOf hi', if_neg hz, addr_add]
      · cases h
    · cases h
  · cases h

end
end Go.Ab
