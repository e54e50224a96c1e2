/- A part of the proof of 'FrameOpens': lemmas, no statement of their own; no condition. -/
import Derived.Test.YtanilhagglikjaaMaE
import Derived.Lib.ConvBytes
/- Operations by hand that make or change memory that the frame doesn't own. -/
namespace Go.Ab
open Go
section
variable {P : Program} {N : Nat} {ops : Array Oper} {Q : Exit → Act → World → Prop} {F : Nat → Prop} {w0 : World} {s : St} {a : Act} {w : World}
/-- The frame's own blocks as they were: it stands in the new world. -/
theorem Here.move {σ : Nat → Option Nat} (h : Here N s σ a w) {w' : World} (hgrow : w.heap.size ≤ w'.heap.size) (hsame : ∀ b r, σ b = some r → w'.heap[r]? = w.heap[r]?) : Here N s σ a w' := by
  obtain ⟨⟨u, hf, hs⟩, hn⟩ := h
  refine ⟨⟨u, { hf with row := fun b e cs hb => ?_, obj := fun b o hb => ?_, bound := fun b r hb => Nat.lt_of_lt_of_le (hf.bound b r hb) hgrow, ownsR := fun b _ _ _ _ hr => .inl ⟨b, hr⟩, ownsO := fun b _ _ _ hr => .inl ⟨b, hr⟩, os := rfl, tape := rfl, output := rfl, grown := Nat.le_refl _, frame := fun _ _ _ => rfl }, hs⟩, hn⟩
  · obtain ⟨r, vs, h1, h2, h3⟩ := hf.row b e cs hb
    exact ⟨r, vs, h1, by rw [hsame b r h1]; exact h2, h3⟩
  · obtain ⟨r, o', h1, h2, h3⟩ := hf.obj b o hb
    exact ⟨r, o', h1, by rw [hsame b r h1]; exact h2, h3⟩
theorem Here.put {σ : Nat → Option Nat} (h : Here N s σ a w) {d : Nat} (hd : d < N) (hlen : s.tmps.length = N) {v : AV} {x : Value} (hv : Rel σ v x) : Here N { s with tmps := s.tmps.set d v } σ (a.put (some d) x) w := by
  obtain ⟨⟨u, hf, hs⟩, hn⟩ := h
  refine ⟨⟨upd1 u (.tmp d) (.av v), hf.put hd hv, fun l c h => ?_⟩, hn⟩
  cases l with
  | blk b => simpa [upd1] using hs (.blk b) c h
  | tmp t =>
    by_cases e : t = d
    · subst e
      simp only [St.u, stU, List.getElem?_set_self (by omega : t < s.tmps.length), Option.map_some, Option.some.injEq] at h
      subst h
      simp [upd1]
    · simp only [St.u, stU, List.getElem?_set_ne (Ne.symm e)] at h
      have : upd1 u (.tmp d) (.av v) (.tmp t) = u (.tmp t) := by simp [upd1, e]
      rw [this]
      exact hs _ _ h
/-- The blocks that the frame doesn't own, and those that are new. -/
def Wide (F : Nat → Prop) (w w' : World) : Nat → Prop := fun j => F j ∨ (w.heap.size ≤ j ∧ j < w'.heap.size)
theorem Stand.moved (h : Stand F w0 N s a w) {w' : World} (hgrow : w.heap.size ≤ w'.heap.size) (hsame : ∀ j, j < w.heap.size → ¬ F j → w'.heap[j]? = w.heap[j]?) : Stand (Wide F w w') w' N s a w' := by
  obtain ⟨σ, h1, hk, hF⟩ := h
  have hb : ∀ b r, σ b = some r → r < w.heap.size := by
    obtain ⟨⟨u, hf, _⟩, _⟩ := h1
    exact hf.bound
  refine ⟨σ, h1.move hgrow fun b r hr => hsame r (hb b r hr) (hF b r hr), Keep.refl fun k hk' => ?_, fun b r hr hW => ?_⟩
  · rcases hk' with h2 | h2
    · exact Nat.lt_of_lt_of_le (hk.lt h2) hgrow
    · exact h2.2
  · rcases hW with h2 | h2
    · exact hF b r hr h2
    · have := hb b r hr; omega
theorem Stand.put (h : Stand F w0 N s a w) {d : Nat} (hd : d < N) (hlen : s.tmps.length = N) (v : Value) : Stand F w0 N { s with tmps := s.tmps.set d (.val v) } (a.put (some d) v) w := by
  obtain ⟨σ, h1, h2, h3⟩ := h
  exact ⟨σ, h1.put hd hlen (by simp only [Rel]), h2, h3⟩
/-- An operation that makes or changes what the frame doesn't own. -/
theorem op_world {k d : Nat} {op : Op} (hs : sigOf ops k = some (op, some d, true)) (hd : d < N) (hlen : s.tmps.length = N) (hh : Stand F w0 N s a w) {v : Value} {w' : World}
    (hrun : ∀ o : Oper, o.op = op → (execOp a.eval o).run P w = .ok (.value v) w') (hgrow : w.heap.size ≤ w'.heap.size) (hsame : ∀ j, j < w.heap.size → ¬ F j → w'.heap[j]? = w.heap[j]?) (rest : List Nat)
    (hK : ∀ a', Stand (Wide F w w') w' N { s with tmps := s.tmps.set d (.val v) } a' w' → wpOps P ops Q rest a' w') : wpOps P ops Q (k :: rest) a w := by
  obtain ⟨o, ho, hop, hdst, hg⟩ := sigOf_some hs
  rw [wpOps_cons]
  unfold wpOp
  rw [ho]
  simp only
  rw [if_pos (by simp [Region.wanted, hg])]
  refine .inl ?_
  unfold Oper.wp
  rw [hrun o hop, Oper.upon_value, hdst]
  exact hK _ ((hh.moved hgrow hsame).put hd hlen v)
/-- An operation that leaves the world. -/
theorem op_here {k d : Nat} {op : Op} (hs : sigOf ops k = some (op, some d, true)) (hd : d < N) (hlen : s.tmps.length = N) (hh : Stand F w0 N s a w) {v : Value}
    (hrun : ∀ o : Oper, o.op = op → (execOp a.eval o).run P w = .ok (.value v) w) (rest : List Nat)
    (hK : ∀ a', Stand F w0 N { s with tmps := s.tmps.set d (.val v) } a' w → wpOps P ops Q rest a' w) : wpOps P ops Q (k :: rest) a w := by
  obtain ⟨o, ho, hop, hdst, hg⟩ := sigOf_some hs
  exact op_stand ho hg hdst hd hlen hh (hrun o hop) rest hK
/-- A call, by what is known of it. -/
theorem call_world {k d f : Nat} {c : Call} {fn : Func} (hs : sigOf ops k = some (.call c, some d, true)) (hd : d < N) (hlen : s.tmps.length = N) (hh : Stand F w0 N s a w) (hcal : c.callee = .value (.func f)) (hfn : P.funcs[f]? = some fn) (hb : (fn.body.isSome && !fn.name == "runtime.NumGoroutine") = true)
    {args : Array Value} (hargs : c.args.map a.eval = args) {X : Value → World → Prop} (hc : Calls P f args w fun e w' => ∃ v, e = .returned v ∧ RowKit.Below w.heap.size w w' ∧ X v w') (rest : List Nat)
    (hK : ∀ v a' w', X v w' → RowKit.Below w.heap.size w w' → Stand (Wide F w w') w' N { s with tmps := s.tmps.set d (.val v) } a' w' → wpOps P ops Q rest a' w') : wpOps P ops Q (k :: rest) a w := by
  obtain ⟨o, ho, hop, hdst, hg⟩ := sigOf_some hs
  rw [wpOps_cons]
  unfold wpOp
  rw [ho]
  simp only
  rw [if_pos (by simp [Region.wanted, hg])]
  refine .inl ?_
  unfold Oper.wp
  have hexec : (execOp a.eval o).run P w = .ok (.enter f args) w := by
    have e : a.eval (.func f) = .func (.func f) #[] #[] := rfl
    simp only [execOp, hop, resolve, hcal, e, Deferred.ofValue, Sem.run_bind, Sem.run_pure, Result.andThen_ok, invoke, run_callFunc hfn hb, hargs, Array.empty_append, Array.append_empty]
  rw [hexec]
  simp only [Oper.upon]
  refine Calls.mono hc fun e w' he => ?_
  obtain ⟨v, rfl, h1, h2⟩ := he
  simp only
  rw [hdst]
  exact hK v _ w' h2 h1 ((hh.moved h1.size fun j hj _ => h1.block j hj).put hd hlen v)
theorem hget_own {H : Hp} {b : Nat} {c : Con} {s : St} (hs : s.heap = H) (h : hget H b = some c) : s.u (.blk b) = some c := by subst hs; exact h
/-- The place of a part of an own array. -/
theorem own_index {k d : Nat} {t elem : TypeId} {n : Nat} {x ix : Nat} {ti : TypeInfo} (hs : sigOf ops k = some (.indexAddr t (.tmp x) (.tmp ix), some d, true)) (hd : d < N) (hlen : s.tmps.length = N) (hu : P.underlying t = some (.array n elem)) (hi : P.info? elem = some ti) (h1 : ti.size = 1)
    (hh : Stand F w0 N s a w) {b j : Nat} {ik : IntKind} (hx : s.tmps[x]? = some (.ptr b 0)) (hix : s.tmps[ix]? = some (.val (.int ik j))) (hlt : j < n) (rest : List Nat)
    (hK : ∀ a', Stand F w0 N { s with tmps := s.tmps.set d (.ptr b j) } a' w → wpOps P ops Q rest a' w) : wpOps P ops Q (k :: rest) a w := by
  have hjx := hh.eval hix
  obtain ⟨o, ho, hop, hdst, hg⟩ := sigOf_some hs
  obtain ⟨σ, h2, h3, h4⟩ := hh
  obtain ⟨y, hy, hrel⟩ := h2.tmp hx
  simp only [Rel] at hrel
  obtain ⟨r, hr, rfl⟩ := hrel
  rw [wpOps_cons]
  unfold wpOp
  rw [ho]
  simp only
  rw [if_pos (by simp [Region.wanted, hg])]
  refine .inl ?_
  unfold Oper.wp
  have hxe : a.eval (.tmp x) = .pointer (some ⟨r, 0, none⟩) := by simp [Act.eval, hy]
  have hb : 0 ≤ (j : Int) ∧ (j : Int) < (n : Int) := by omega
  have hrun : (execOp a.eval o).run P w = .ok (.value (.pointer (some ⟨r, j, none⟩))) w := by
    simp only [execOp, hop, Instr.indexAt, hjx, asIntOf, Sem.run_bind, run_underlying hu, Result.andThen_ok, hxe, Instr.sureAddr, Sem.run_pure, Sem.run_ite, if_pos hb, run_sizeOf hi, Int.toNat_natCast, h1, Nat.mul_one, addr_add, Nat.zero_add]
  rw [hrun, Oper.upon_value, hdst]
  exact hK _ ⟨σ, h2.put hd hlen (by simp only [Rel]; exact ⟨r, hr, rfl⟩), h3, h4⟩
/-- What lies there. -/
theorem own_load {k d : Nat} {t : TypeId} {x : Nat} {td : TypeDesc} (hs : sigOf ops k = some (.load t (.tmp x), some d, true)) (hd : d < N) (hlen : s.tmps.length = N) (hu : P.underlying t = some td) (hag : isAggD td = false)
    (hh : Stand F w0 N s a w) {b j e : Nat} {cs : List AV} {v : Value} (hx : s.tmps[x]? = some (.ptr b j)) (hrow : hget s.heap b = some (.row e cs)) (hv : cs[j]? = some (.val v)) (rest : List Nat)
    (hK : ∀ a', Stand F w0 N { s with tmps := s.tmps.set d (.val v) } a' w → wpOps P ops Q rest a' w) : wpOps P ops Q (k :: rest) a w := by
  obtain ⟨σ, h2, h3, h4⟩ := hh
  obtain ⟨y, hy, hrel⟩ := h2.tmp hx
  simp only [Rel] at hrel
  obtain ⟨r, hr, rfl⟩ := hrel
  have hxe : a.eval (.tmp x) = .pointer (some ⟨r, j, none⟩) := by simp [Act.eval, hy]
  have hcell : w.cell? ⟨r, j, none⟩ = some v := by
    obtain ⟨⟨u, hf, hsub⟩, _⟩ := h2
    obtain ⟨r', vs, h5, h6, h7⟩ := hf.row b e cs (hsub _ _ (hget_own rfl hrow))
    rw [hr] at h5
    cases h5
    obtain ⟨z, hz, hzr⟩ := Rels.get h7 hv
    simp only [Rel] at hzr
    subst hzr
    simp [World.cell?, h6, hz]
  refine load_stand hs hd hlen ⟨σ, h2, h3, h4⟩ hxe (run_loadScalar hu hag hcell) rest hK
end
end Go.Ab
