/- A part of the proof of 'FrameOpens': lemmas, no statement of their own; no condition. -/
import Derived.Test.YtanilhagglikjaaLiA
/- Regions by pieces: operations that the interpreter runs, and single ones by hand. -/
namespace Go.Ab
open Go
section
variable {P : Program} {N : Nat} {ops : Array Oper} {Q : Exit → Act → World → Prop} {w0 : World} {own : Nat → Prop}
theorem chain_rest : ∀ (items : List It) (rest : List Nat) (u u' : U) (σ : Nat → Option Nat) (a : Act) (w : World), Chain P N ops items u u' → Fits N w0 own σ u a w → Fresh items σ → items.Pairwise Apart →
    (∀ σ' a' w', Le σ σ' → Out items σ σ' → Fits N w0 own σ' u' a' w' → wpOps P ops Q rest a' w') → wpOps P ops Q (items.map (·.i) ++ rest) a w
  | [], rest, u, u', σ, a, w, hc, hf, _, _, hQ => by
    simp only [Chain] at hc
    subst hc
    exact hQ σ a w (Le.refl σ) (fun _ h _ => h) hf
  | it :: r, rest, u, u', σ, a, w, hc, hf, hn, hp, hQ => by
    obtain ⟨h1, h2, h3⟩ := hc
    simp only [List.map_cons, List.cons_append, wpOps_cons]
    rw [List.pairwise_cons] at hp
    refine h2 Q w0 own σ u a w hf h1 (hn it (List.mem_cons_self ..)) _ fun σ' a' w' hle hout hf' => ?_
    refine chain_rest r rest _ u' σ' a' w' h3 hf' (fun x hx b hb1 hb2 => ?_) hp.2 fun σ'' a'' w'' hle' hout' hf'' => ?_
    · refine hout b (hn x (List.mem_cons_of_mem _ hx) b hb1 hb2) ?_
      rcases hp.1 x hx with h | h <;> omega
    · refine hQ σ'' a'' w'' (hle.trans hle') (fun b hb hb' => ?_) hf''
      exact hout' b (hout b hb (hb' it (List.mem_cons_self ..))) fun x hx => hb' x (List.mem_cons_of_mem _ hx)
theorem opsRun_stand {β : Type} {call : CallR β} {qf : FuncId → Bool} (hcall : CallOk P call) {l : List Oper} {k : Nat} {s : St} {K : St → List Foot → Option β} {res : β} (h : opsRun P call qf N ops l s [] K = some res) (hl : ∀ j o, l[j]? = some o → ops[k + j]? = some o)
    {F : Nat → Prop} {w0 : World} {a : Act} {w : World} (hh : Stand F w0 N s a w) (rest : List Nat) {s1 : St} (hok : okNamed s1 = true) (hroom : ∀ s' feet, K s' feet = some res → (s'.lo ≤ s'.hi ∨ s'.lo = s.lo) ∧ Wk s1.u s'.u ∧ s'.lo ≤ s1.lo ∧ s1.hi ≤ s'.hi)
    (hK : ∀ a' w', Stand F w0 N s1 a' w' → wpOps P ops Q rest a' w') : wpOps P ops Q ((List.range l.length).map (k + ·) ++ rest) a w := by
  obtain ⟨items, s', h1, h2, h3, h4, h5, h6, _, _⟩ := opsRun_sound hcall l k s [] h hl
  obtain ⟨σ, ⟨⟨u, hf, hs⟩, hn⟩, hk, hF⟩ := hh
  obtain ⟨u', hc, hs'⟩ := h2 u hs
  have hb := h5.bounds
  obtain ⟨hrm, hwk, hlo, hhi⟩ := hroom s' _ h1
  have hix : items.map (·.i) = (List.range l.length).map (k + ·) := by
    apply List.ext_getElem
    · simp [h3]
    · intro j hj1 hj2
      simp only [List.getElem_map, List.getElem_range]
      exact h4 j _ (List.getElem?_eq_getElem (by simpa using hj1))
  rw [← hix]
  have hfresh : Fresh items σ := by
    intro it hit b hb1 hb2
    have := hb.2 it hit
    exact hn b (by omega) (by omega)
  refine chain_rest items rest u u' σ a w hc hf hfresh h5.apart fun σ' a' w' hle hout hf' => ?_
  refine hK a' w' (stand_of hk hF ((hf'.sub hs').weak hwk) (Sub.refl _) (fun b hb1 hb2 => ?_) hok)
  refine hout b (hn b (by omega) (by omega)) fun it hit => ?_
  have := hb.2 it hit
  omega
/-- One operation by hand, that gives a value and leaves the world. -/
theorem op_stand {k d : Nat} {o : Oper} (ho : ops[k]? = some o) (hg : o.guard = none) (hd : o.dst = some d) (hdN : d < N) {s : St} (hlen : s.tmps.length = N) {F : Nat → Prop} {w0 : World} {a : Act} {w : World} (hh : Stand F w0 N s a w) {v : Value}
    (hrun : (execOp a.eval o).run P w = .ok (.value v) w) (rest : List Nat) (hK : ∀ a', Stand F w0 N { s with tmps := s.tmps.set d (.val v) } a' w → wpOps P ops Q rest a' w) : wpOps P ops Q (k :: rest) a w := by
  rw [wpOps_cons]
  unfold wpOp
  rw [ho]
  simp only
  rw [if_pos (by simp [Region.wanted, hg])]
  refine .inl ?_
  unfold Oper.wp
  rw [hrun, Oper.upon_value, hd]
  refine hK _ ?_
  obtain ⟨σ, ⟨⟨u, hf, hs⟩, hn⟩, hk, hF⟩ := hh
  refine ⟨σ, ⟨⟨upd1 u (.tmp d) (.av (.val v)), hf.put hdN (by simp only [Rel]), fun l c h => ?_⟩, hn⟩, hk, hF⟩
  cases l with
  | blk b => simpa [upd1] using hs (.blk b) c h
  | tmp t =>
    by_cases e : t = d
    · subst e
      simp only [St.u, stU, List.getElem?_set_self (by omega : t < s.tmps.length), Option.map_some, Option.some.injEq] at h
      subst h
      simp [upd1]
    · simp only [St.u, stU, List.getElem?_set_ne (Ne.symm e)] at h
      have : upd1 u (.tmp d) (.av (.val v)) (.tmp t) = u (.tmp t) := by simp [upd1, e]
      rw [this]
      exact hs _ _ h
end
theorem Stand.eval {F : Nat → Prop} {w0 : World} {N : Nat} {s : St} {a : Act} {w : World} (h : Stand F w0 N s a w) {t : Nat} {v : Value} (ht : s.tmps[t]? = some (.val v)) : a.eval (.tmp t) = v := by
  obtain ⟨σ, h1, _⟩ := h
  obtain ⟨x, h1, h2⟩ := h1.tmp ht
  simp only [Rel] at h2
  subst h2
  simp [Act.eval, h1]
theorem Stand.keep {F : Nat → Prop} {w0 : World} {N : Nat} {s : St} {a : Act} {w : World} (h : Stand F w0 N s a w) : Keep F w0 w := by obtain ⟨_, _, h, _⟩ := h; exact h
theorem run_loadFrom {P : Program} {w : World} {a : Addr} : ∀ (n i : Nat) (cs : List Value) (acc : Array Value), cs.length = n → (∀ j c, cs[j]? = some c → w.cell? (a.add (i + j)) = some c) → (loadCellsFrom a i n acc).run P w = .ok (acc ++ List.toArray cs) w
  | 0, i, cs, acc, hl, _ => by
    cases cs with
    | nil => simp [loadCellsFrom]
    | cons c r => simp at hl
  | n + 1, i, [], acc, hl, _ => by simp at hl
  | n + 1, i, c :: r, acc, hl, hc => by
    have h0 : w.cell? (a.add i) = some c := by simpa using hc 0 c rfl
    have ih := run_loadFrom (P := P) (w := w) (a := a) n (i + 1) r (acc.push c) (by simpa using hl) fun j d hj => by
      have := hc (j + 1) d (by simpa using hj)
      rwa [show i + (j + 1) = i + 1 + j by omega] at this
    simp only [loadCellsFrom, Sem.run_bind, run_load, h0, Result.andThen_ok, ih]
    simp
/-- A struct or array out of foreign memory. -/
theorem run_loadForeign {P : Program} {w : World} {t : TypeId} {d : TypeDesc} {i : TypeInfo} {a : Addr} {cs : List Value} (hd : P.underlying t = some d) (hagg : isAggD d = true) (hi : P.info? t = some i) (hc : w.cells? 0 a i.size = some cs) :
    (loadVar t a).run P w = .ok (.agg (List.toArray cs)) w := by
  obtain ⟨_, hl, hat⟩ := World.cells?_some hc
  unfold loadVar
  rw [Sem.run_bind, run_isAgg hd w, hagg]
  simp only [Result.andThen_ok, if_true, Sem.run_bind, run_sizeOf hi w]
  have := run_loadFrom (P := P) (w := w) (a := a) i.size 0 cs #[] (by omega) fun j c hj => by
    have hjl : j < i.size := by have := (List.getElem?_eq_some_iff.1 hj).1; omega
    rw [Nat.zero_add, hat j hjl, hj]
  unfold loadCells
  rw [this]
  simp
end Go.Ab
