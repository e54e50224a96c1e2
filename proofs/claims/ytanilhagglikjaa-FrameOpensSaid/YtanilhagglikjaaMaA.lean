/- A part of the proof of 'FrameOpens': lemmas, no statement of their own; no condition. -/
import Derived.Test.YtanilhagglikjaaAbTwo
import Derived.Deep.Slices
/- Walks by hand, piece by piece, where the interpreter has no word: what the frame knows is told anew at each piece. -/
namespace Go.Ab
open Go
def Own (σ : Nat → Option Nat) : Nat → Prop := fun k => ∃ b, σ b = some k
/-- The frame's state, as it stands. -/
structure Here (N : Nat) (s : St) (σ : Nat → Option Nat) (a : Act) (w : World) : Prop where
  fits : ∃ u, Fits N w (Own σ) σ u a w ∧ Sub s.u u
  fresh : ∀ b, s.lo ≤ b → b < s.hi → σ b = none
/-- All memory but the named blocks is as it was. -/
structure KeptBut (own : Nat → Prop) (w w' : World) : Prop where
  os : w'.os = w.os
  tape : w'.tape = w.tape
  output : w'.output = w.output
  grown : w.heap.size ≤ w'.heap.size
  frame : ∀ k, k < w.heap.size → ¬ own k → w'.heap[k]? = w.heap[k]?
theorem KeptBut.refl (own : Nat → Prop) (w : World) : KeptBut own w w := ⟨rfl, rfl, rfl, Nat.le_refl _, fun _ _ _ => rfl⟩
theorem Fits.rebase {N : Nat} {w0 : World} {own : Nat → Prop} {σ : Nat → Option Nat} {u : U} {a : Act} {w : World} (h : Fits N w0 own σ u a w) : Fits N w (Own σ) σ u a w :=
  { h with ownsR := fun b _ _ _ _ hs => .inl ⟨b, hs⟩, ownsO := fun b _ _ _ hs => .inl ⟨b, hs⟩, os := rfl, tape := rfl, output := rfl, grown := Nat.le_refl _, frame := fun _ _ _ => rfl }
theorem RunsTo.here {P : Program} {N : Nat} {c : Code} {s s' : St} {e : Ex} (h : RunsTo P N c s e s') {σ : Nat → Option Nat} {a : Act} {w : World} (hh : Here N s σ a w) {Q : Exit → Act → World → Prop}
    (hQ : ∀ σ' a' w', Here N s' σ' a' w' → Le σ σ' → (∀ b, σ b = none → (b < s.lo ∨ s.hi ≤ b) → σ' b = none) → KeptBut (Own σ) w w' → Q e.to a' w') : c.wp P Q a w := by
  obtain ⟨⟨u, hf, hs⟩, hn⟩ := hh
  refine h w (Own σ) σ s.lo s.hi a w ⟨σ, u, hf, hs, hn, Le.refl σ, fun b hb _ => hb, Nat.le_refl _, Nat.le_refl _⟩ Q fun a' w' hst => ?_
  obtain ⟨σ', u', hf', hs', hn', hl, ho, _, _⟩ := hst
  exact hQ σ' a' w' ⟨⟨u', hf'.rebase, hs'⟩, hn'⟩ hl ho ⟨hf'.os, hf'.tape, hf'.output, hf'.grown, hf'.frame⟩
/-- A function's begin, with arguments as they stand. -/
theorem Here.start {N : Nat} (vals : List Value) (w : World) (lo hi step : Nat) (hN : vals.length ≤ N) :
    Here N ⟨vals.map .val ++ List.replicate (N - vals.length) (.val undef), [], lo, hi, step, []⟩ (fun _ => none) { tmps := List.toArray vals ++ Array.replicate (N - (List.toArray vals).size) undef, defers := [] } w := by
  have hargsR : Rels (fun _ => none) (vals.map .val ++ List.replicate (N - vals.length) (.val undef)) (vals ++ List.replicate (N - vals.length) undef) := Rels.append (Rels.vals vals) (Rels.undefs _ _)
  refine ⟨⟨St.u ⟨vals.map .val ++ List.replicate (N - vals.length) (.val undef), [], lo, hi, step, []⟩, ⟨rfl, by simp; omega, fun t v hv => ?_, fun b e cs hb => ?_, fun b o hb => ?_, (fun _ _ _ h => by cases h), (fun _ _ h => by cases h), (fun _ _ _ _ _ h => by cases h), (fun _ _ _ _ h => by cases h), rfl, rfl, rfl, Nat.le_refl _, fun _ _ _ => rfl⟩, Sub.refl _⟩, fun _ _ _ => rfl⟩
  · simp only [St.u, stU, Option.map_eq_some_iff, Con.av.injEq] at hv
    obtain ⟨x, hx, rfl⟩ := hv
    obtain ⟨y, hy, hrel⟩ := Rels.get hargsR hx
    refine ⟨y, ?_, hrel⟩
    rw [← hy]
    have : (List.toArray vals ++ Array.replicate (N - (List.toArray vals).size) undef) = List.toArray (vals ++ List.replicate (N - vals.length) undef) := by
      apply Array.toList_inj.1; simp
    simp only [this, List.getElem?_toArray]
  · simp [St.u, stU, hget] at hb
  · simp [St.u, stU, hget] at hb
/-- A function's end. -/
theorem Here.results {P : Program} {fn : Func} {N : Nat} {s : St} {σ : Nat → Option Nat} {a : Act} {w : World} (h : Here N s σ a w) {as : List AV} (hr : resA P s fn.results.toList = some as) :
    ∃ v, (results fn a.tmps).run P w = .ok v w ∧ Rel σ (pack as) v ∧ a.defers = [] := by
  obtain ⟨⟨u, hf, hs⟩, _⟩ := h
  obtain ⟨v, h1, h2⟩ := run_results hf hs hr
  exact ⟨v, h1, h2, hf.defers⟩
theorem Here.tmp {N : Nat} {s : St} {σ : Nat → Option Nat} {a : Act} {w : World} (h : Here N s σ a w) {t : Nat} {v : AV} (ht : s.tmps[t]? = some v) : ∃ x, a.tmps[t]? = some x ∧ Rel σ v x := by
  obtain ⟨⟨u, hf, hs⟩, _⟩ := h
  exact hf.tmp t v (hs _ _ (by simp [St.u, stU, ht]))
/-- What the call must not touch, as it was. -/
structure Keep (F : Nat → Prop) (w0 w : World) : Prop where
  os : w.os = w0.os
  tape : w.tape = w0.tape
  output : w.output = w0.output
  grown : w0.heap.size ≤ w.heap.size
  frame : ∀ k, F k → k < w0.heap.size ∧ w.heap[k]? = w0.heap[k]?
theorem Keep.below {w w' : World} (h : Keep (fun k => k < w.heap.size) w w') : RowKit.Below w.heap.size w w' := ⟨h.os, h.tape, h.output, h.grown, fun k hk => (h.frame k hk).2⟩
theorem Keep.refl {F : Nat → Prop} {w : World} (h : ∀ k, F k → k < w.heap.size) : Keep F w w := ⟨rfl, rfl, rfl, Nat.le_refl _, fun k hk => ⟨h k hk, rfl⟩⟩
theorem Keep.trans {F G : Nat → Prop} {w0 w1 w2 : World} (h : Keep F w0 w1) (k : Keep G w1 w2) (hFG : ∀ x, F x → G x) : Keep F w0 w2 :=
  ⟨k.os.trans h.os, k.tape.trans h.tape, k.output.trans h.output, Nat.le_trans h.grown k.grown, fun x hx => ⟨(h.frame x hx).1, (k.frame x (hFG x hx)).2.trans (h.frame x hx).2⟩⟩
theorem Keep.lt {F : Nat → Prop} {w0 w : World} (h : Keep F w0 w) {k : Nat} (hk : F k) : k < w.heap.size := Nat.lt_of_lt_of_le (h.frame k hk).1 h.grown
theorem Keep.step {F : Nat → Prop} {w0 w w' : World} {own : Nat → Prop} (h : Keep F w0 w) (hm : ∀ r, own r → ¬ F r) (k : KeptBut own w w') : Keep F w0 w' :=
  ⟨k.os.trans h.os, k.tape.trans h.tape, k.output.trans h.output, Nat.le_trans h.grown k.grown, fun x hx => ⟨(h.frame x hx).1, (k.frame x (h.lt hx) (fun ho => hm x ho hx)).trans (h.frame x hx).2⟩⟩
/-- Each name that is told of is a block's that is told. -/
def okNamed (s : St) : Bool := (s.tmps.all fun a => (names a).all fun b => (hget s.heap b).isSome) && (noAv s.heap && s.heap.all fun p => (conNames p.2).all fun b => (hget s.heap b).isSome)
def pruneσ (σ : Nat → Option Nat) (H : Hp) : Nat → Option Nat := fun b => if (hget H b).isSome then σ b else none
theorem prune_some {σ : Nat → Option Nat} {H : Hp} {b r : Nat} (h : pruneσ σ H b = some r) : σ b = some r ∧ (hget H b).isSome := by
  unfold pruneσ at h
  split at h
  · rename_i h1; exact ⟨h, h1⟩
  · cases h
theorem prune_on {σ : Nat → Option Nat} {H : Hp} {b : Nat} (h : (hget H b).isSome) : pruneσ σ H b = σ b := by unfold pruneσ; rw [if_pos h]
mutual
theorem Rel.prune {σ : Nat → Option Nat} {H : Hp} : ∀ (a : AV) (v : Value), (∀ b ∈ names a, (hget H b).isSome) → Rel σ a v → Rel (pruneσ σ H) a v
  | .val _, _, _, k => by simpa only [Rel] using k
  | .ptr b _, _, hc, k => by simp only [Rel] at k ⊢; rw [prune_on (hc b (by simp [names]))]; exact k
  | .slice b _ _ _, _, hc, k => by simp only [Rel] at k ⊢; rw [prune_on (hc b (by simp [names]))]; exact k
  | .agg cs, _, hc, k => by simp only [Rel] at k ⊢; obtain ⟨r, h1, h2⟩ := k; exact ⟨r, h1, Rels.prune cs _ (fun b hb => hc b (by simpa [names] using hb)) h2⟩
  | .tuple cs, _, hc, k => by simp only [Rel] at k ⊢; obtain ⟨r, h1, h2⟩ := k; exact ⟨r, h1, Rels.prune cs _ (fun b hb => hc b (by simpa [names] using hb)) h2⟩
  | .func _ a b, _, hc, k => by
    simp only [Rel] at k ⊢
    obtain ⟨x, y, h1, h2, h3⟩ := k
    exact ⟨x, y, h1, Rels.prune a _ (fun d hd => hc d (by simp [names, hd])) h2, Rels.prune b _ (fun d hd => hc d (by simp [names, hd])) h3⟩
  | .map b, _, hc, k => by simp only [Rel] at k ⊢; rw [prune_on (hc b (by simp [names]))]; exact k
  | .any, _, _, _ => by simp only [Rel]
theorem Rels.prune {σ : Nat → Option Nat} {H : Hp} : ∀ (a : List AV) (v : List Value), (∀ b ∈ namesL a, (hget H b).isSome) → Rels σ a v → Rels (pruneσ σ H) a v
  | [], _, _, k => by simpa only [Rels] using k
  | a :: as, _, hc, k => by
    simp only [Rels] at k ⊢
    obtain ⟨x, xs, h1, h2, h3⟩ := k
    exact ⟨x, xs, h1, Rel.prune a x (fun b hb => hc b (by simp [namesL, hb])) h2, Rels.prune as xs (fun b hb => hc b (by simp [namesL, hb])) h3⟩
end
/-- The frame stands so, and what it must not touch is as it was. -/
def Stand (F : Nat → Prop) (w0 : World) (N : Nat) (s : St) (a : Act) (w : World) : Prop := ∃ σ, Here N s σ a w ∧ Keep F w0 w ∧ ∀ b r, σ b = some r → ¬ F r
theorem stand_of {F : Nat → Prop} {w0 : World} {N : Nat} {s : St} {σ σ' : Nat → Option Nat} {u' : U} {a' : Act} {w w' : World} (hk : Keep F w0 w) (hF : ∀ b r, σ b = some r → ¬ F r) (hf : Fits N w (Own σ) σ' u' a' w') (hs : Sub s.u u') (hn : ∀ b, s.lo ≤ b → b < s.hi → σ' b = none) (hok : okNamed s = true) :
    Stand F w0 N s a' w' := by
  have hw := hf.sub hs
  simp only [okNamed, Bool.and_eq_true, List.all_eq_true] at hok
  obtain ⟨hct, hno, hch⟩ := hok
  have hkept : KeptBut (Own σ) w w' := ⟨hf.os, hf.tape, hf.output, hf.grown, hf.frame⟩
  have hK : Keep F w0 w' := hk.step (fun r ⟨b, hb⟩ => hF b r hb) hkept
  refine ⟨pruneσ σ' s.heap, ⟨⟨s.u, ?_, fun l c h => h⟩, fun b h1 h2 => ?_⟩, hK, fun b r hb => ?_⟩
  · refine { hw with tmp := fun t v hv => ?_, row := fun b e cs hb => ?_, obj := fun b o hb => ?_, inj := fun b b' r h1 h2 => hw.inj b b' r (prune_some h1).1 (prune_some h2).1, bound := fun b r hb => hw.bound b r (prune_some hb).1, ownsR := fun b _ _ _ _ hr => .inl ⟨b, hr⟩, ownsO := fun b _ _ _ hr => .inl ⟨b, hr⟩, os := rfl, tape := rfl, output := rfl, grown := Nat.le_refl _, frame := fun _ _ _ => rfl }
    · obtain ⟨x, h3, h4⟩ := hw.tmp t v hv
      simp only [St.u, stU, Option.map_eq_some_iff] at hv
      obtain ⟨y, hy, e⟩ := hv
      cases e
      exact ⟨x, h3, Rel.prune v x (fun b hb => hct v (List.mem_of_getElem? hy) b hb) h4⟩
    · obtain ⟨r, vs, h3, h4, h5⟩ := hw.row b e cs hb
      have hm : hget s.heap b = some (.row e cs) := hb
      refine ⟨r, vs, by rw [prune_on (by rw [hm]; rfl)]; exact h3, h4, Rels.prune cs vs (fun d hd => ?_) h5⟩
      have hmem : ∀ (L : Hp), hget L b = some (.row e cs) → (b, Con.row e cs) ∈ L := by
        intro L
        induction L with
        | nil => intro h; simp [hget] at h
        | cons p L ih =>
          intro h
          obtain ⟨b', c'⟩ := p
          simp only [hget] at h
          split at h
          · rename_i e'
            cases h
            rw [Nat.eq_of_beq_eq_true e']
            simp
          · exact List.mem_cons_of_mem _ (ih h)
      exact hch _ (hmem _ hm) d hd
    · obtain ⟨r, o', h3, h4, h5⟩ := hw.obj b o hb
      have hm : hget s.heap b = some (.obj o) := hb
      exact ⟨r, o', by rw [prune_on (by rw [hm]; rfl)]; exact h3, h4, h5⟩
  · unfold pruneσ
    split
    · exact hn b h1 h2
    · rfl
  · obtain ⟨h1, h2⟩ := prune_some hb
    have key : Own σ r ∨ w.heap.size ≤ r := by
      obtain ⟨c, hc⟩ := Option.isSome_iff_exists.1 h2
      cases c with
      | row e cs => exact hw.ownsR b e cs r hc h1
      | obj o => exact hw.ownsO b o r hc h1
      | av v => exact absurd hc (noAv_spec hno b v)
    rcases key with ⟨b', hb'⟩ | h3
    · exact hF b' r hb'
    · intro hFr
      have := hk.lt hFr
      omega
/-- A piece of code that the interpreter runs. -/
theorem RunsTo.stand {P : Program} {N : Nat} {c : Code} {s s' : St} {e : Ex} (h : RunsTo P N c s e s') (hok : okNamed s' = true) {F : Nat → Prop} {w0 : World} {a : Act} {w : World} (hh : Stand F w0 N s a w) {Q : Exit → Act → World → Prop}
    (hQ : ∀ a' w', Stand F w0 N s' a' w' → Q e.to a' w') : c.wp P Q a w := by
  obtain ⟨σ, ⟨⟨u, hf, hs⟩, hn⟩, hk, hF⟩ := hh
  refine h w (Own σ) σ s.lo s.hi a w ⟨σ, u, hf, hs, hn, Le.refl σ, fun b hb _ => hb, Nat.le_refl _, Nat.le_refl _⟩ Q fun a' w' hst => ?_
  obtain ⟨σ', u', hf', hs', hn', _, _, _, _⟩ := hst
  exact hQ a' w' (stand_of hk hF hf' hs' hn' hok)
theorem Stand.start {N : Nat} (vals : List Value) (w : World) (lo hi step : Nat) (hN : vals.length ≤ N) :
    Stand (fun k => k < w.heap.size) w N ⟨vals.map .val ++ List.replicate (N - vals.length) (.val undef), [], lo, hi, step, []⟩ { tmps := List.toArray vals ++ Array.replicate (N - (List.toArray vals).size) undef, defers := [] } w :=
  ⟨_, Here.start vals w lo hi step hN, Keep.refl fun _ h => h, fun _ _ h => by cases h⟩
theorem Stand.results {P : Program} {fn : Func} {F : Nat → Prop} {w0 : World} {N : Nat} {s : St} {a : Act} {w : World} (h : Stand F w0 N s a w) {v : Value} (hr : resA P s fn.results.toList = some [.val v]) :
    (Go.results fn a.tmps).run P w = .ok v w ∧ a.defers = [] ∧ Keep F w0 w := by
  obtain ⟨σ, h1, h2, _⟩ := h
  obtain ⟨x, h3, h4, h5⟩ := h1.results hr
  simp only [pack, Rel] at h4
  subst h4
  exact ⟨h3, h5, h2⟩
/-- What is known less. -/
theorem Stand.weak {F : Nat → Prop} {w0 : World} {N : Nat} {s s' : St} {a : Act} {w : World} (h : Stand F w0 N s a w) (hw : Wk s'.u s.u) (hlo : s.lo ≤ s'.lo) (hhi : s'.hi ≤ s.hi) : Stand F w0 N s' a w := by
  obtain ⟨σ, ⟨⟨u, hf, hs⟩, hn⟩, hk, hF⟩ := h
  exact ⟨σ, ⟨⟨s'.u, (hf.sub hs).weak hw, Sub.refl _⟩, fun b h1 h2 => hn b (by omega) (by omega)⟩, hk, hF⟩
end Go.Ab
