/- A part of the proof of 'ModeRuns': lemmas, no statement of their own; no condition. -/
import Derived.Test.YtghmnjmcnchinaaMoL
/- The contract of where faults lead. -/
namespace Go.Ab
open Go Go.Proofs
noncomputable def lfirst : Array Oper := match Try.f14.body with | some (.seq (.region _ ops _) _) => ops | _ => #[]
theorem lbody : Try.f14.body = some (.seq (.region 0 lfirst false) (.seq (.region 1 lops true) .ret)) := by kernel_rfl
theorem lfirst_wp (Q : Exit → Act → World → Prop) (a : Act) (w : World) (h : Q .normal (a.put (some 0) (.map none)) w) : wpOps Try.prog lfirst Q (List.range lfirst.size) a w := by
  have e1 : List.range lfirst.size = [0] := by kernel_rfl
  obtain ⟨o, ho, hop, hd, hg⟩ : ∃ o, lfirst[0]? = some o ∧ o.op = .assign (.const (.map none)) ∧ o.dst = some 0 ∧ o.guard = none := by
    have : (lfirst[0]?).map (fun o => (o.op, o.dst, o.guard.isNone)) = some (.assign (.const (.map none)), some 0, true) := by kernel_rfl
    cases ho : lfirst[0]? with
    | none => rw [ho] at this; cases this
    | some o =>
      rw [ho] at this
      simp only [Option.map_some, Option.some.injEq, Prod.mk.injEq] at this
      exact ⟨o, rfl, this.1, this.2.1, by simpa using this.2.2⟩
  rw [e1, wpOps_cons]
  unfold wpOp
  rw [ho]
  simp only
  rw [if_pos (by simp [Region.wanted, hg])]
  refine .inl ?_
  unfold Oper.wp
  have e2 : (execOp a.eval o).run Try.prog w = .ok (.value (.map none)) w := by simp only [execOp, hop, Act.eval, Sem.run_pure]
  rw [e2, Oper.upon_value, hd]
  simpa [wpOps] using h
theorem leads_calls (w : World) : Calls Try.prog 14 #[] w fun e w' => ∃ es c, e = .returned (.map (some w.heap.size)) ∧ w'.heap = w.heap.push (.map es c) ∧ (∀ p, p ∈ es.toList.map kvOf ↔ p ∈ pairsOf lbuf) ∧ w'.os = w.os ∧ w'.tape = w.tape ∧ w'.output = w.output := by
  refine calls_of_wp Try.func14 lbody (wp_seq (wp_region (lfirst_wp _ _ _ (wp_seq (wp_region_any (by kernel_rfl) ?_)))))
  rw [lop_size]
  have hst : LI w (fun i => (Array.replicate 13 false).getD i true) (Act.put { tmps := (#[] : Array Value) ++ Array.replicate (Try.f14.ntmps - (#[] : Array Value).size) undef, defers := [] } (some 0) (.map none)) { w with drawn := w.drawn + 1 } := by
    have hz : ∀ i, i < 13 → (Array.replicate 13 false).getD i true = false := fun i hi => by simp [hi]
    refine ⟨rfl, by simp [Act.put], rfl, rfl, rfl, fun _ => rfl, fun h => ?_, fun i hi h => ?_, fun h => ?_, fun h => ?_, fun _ i hi => hz _ (by omega)⟩
    · rw [hz _ (by omega)] at h; cases h
    · rw [hz _ (by omega)] at h; cases h
    · rw [hz _ (by omega)] at h; cases h
    · rw [hz _ (by omega)] at h; cases h
  refine LI.all _ (fun L a' w' h hall => ?_) 13 _ _ _ (by simp) (by simp) hst
  obtain ⟨_, es, c, h2, h3⟩ := h.m1 (hall 0 (by omega))
  have h0 := h.asg (hall 12 (by omega))
  have hres : (results Try.f14 a'.tmps).run Try.prog w' = .ok (.map (some w.heap.size)) w' := by
    simp [results, h0]
  refine wp_ret ?_
  refine bodyPost_ret hres h.defers ⟨es, c, rfl, h2, fun p => (h3 p).trans ?_, h.os, h.tape, h.output⟩
  constructor
  · rintro ⟨i, hi, _, rfl⟩
    match i, hi with
    | 0, _ | 1, _ | 2, _ | 3, _ | 4, _ => simp [lbuf, pairsOf]
  · intro hp
    simp only [lbuf, pairsOf, List.mem_cons, List.not_mem_nil, or_false] at hp
    rcases hp with rfl | rfl | rfl | rfl | rfl
    · exact ⟨0, by omega, hall _ (by omega), rfl⟩
    · exact ⟨1, by omega, hall _ (by omega), rfl⟩
    · exact ⟨2, by omega, hall _ (by omega), rfl⟩
    · exact ⟨3, by omega, hall _ (by omega), rfl⟩
    · exact ⟨4, by omega, hall _ (by omega), rfl⟩
def lmap : Obj := .chan 0 (List.toArray lbuf) false 0 0 false
def leadsS : Summary := fun args cs => match args, cs with
  | [], [] => .ret (.map 0) [.obj lmap]
  | _, _ => .no
theorem leads_ok : SumOk Try.prog 14 leadsS := by
  intro args cs r cs' hs
  unfold leadsS at hs
  split at hs
  · simp only [STr.sel, Option.some.injEq, Prod.mk.injEq] at hs
    obtain ⟨rfl, rfl⟩ := hs
    refine ⟨by simp, fun σ vals w hinj hbd hvals _ hn => ?_⟩
    simp only [Rels] at hvals
    subst hvals
    refine Calls.mono (leads_calls w) fun e w' he => ?_
    obtain ⟨es, c, rfl, h1, h2, h3, h4, h5⟩ := he
    have h0 : σ 0 = none := hn 0 (by simp) (by simp)
    have hle : Le σ (fun b => if b = 0 then some w.heap.size else σ b) := by
      intro b r hb
      show (if b = 0 then _ else _) = _
      rw [if_neg (fun e => by rw [e, h0] at hb; cases hb)]
      exact hb
    have hheap : ∀ k, k < w.heap.size → w'.heap[k]? = w.heap[k]? := fun k hk => by rw [h1, Array.getElem?_push_lt hk, Array.getElem?_eq_getElem hk]
    refine ⟨_, _, rfl, hle, fun b hb hb2 => ?_, ?_, ?_, ?_, ?_, ?_, h3, h4, h5, by rw [h1]; simp, fun k hk _ => hheap k hk⟩
    · simp only [List.length_nil, List.length_cons] at hb2
      show (if b = 0 then _ else _) = _
      rw [if_neg (by omega)]; exact hb
    · simp only [Rel]; exact ⟨w.heap.size, by simp, rfl⟩
    · intro b cc hb
      simp only [numH, hget] at hb
      split at hb
      · rename_i e
        have := Nat.eq_of_beq_eq_true e
        subst this
        cases hb
        refine ⟨w.heap.size, .map es c, by simp, by rw [h1]; simp, es, c, rfl, fun p => (h2 p).trans (by simp)⟩
      · cases hb
    · intro b b' r hb hb'
      split at hb <;> split at hb'
      · omega
      · simp only [Option.some.injEq] at hb; have := hbd _ _ hb'; omega
      · simp only [Option.some.injEq] at hb'; have := hbd _ _ hb; omega
      · exact hinj _ _ _ hb hb'
    · intro b r hb
      split at hb
      · simp only [Option.some.injEq] at hb; rw [h1]; simp; omega
      · have := hbd _ _ hb; rw [h1]; simp; omega
    · intro b cc hb
      simp only [numH, hget] at hb
      split at hb
      · rename_i e
        have := Nat.eq_of_beq_eq_true e
        subst this
        exact .inr fun r hr => by simp only [if_true, Option.some.injEq] at hr; omega
      · cases hb
  · simp [STr.sel] at hs
end Go.Ab
