/- A part of the proofs: lemmas, no statement of their own; no condition. -/
import Derived.Test.YtanilhagglikjaaAbTwo
import Derived.Deep.Slices
/- Walks by hand, piece by piece, where the interpreter has no word: what the frame knows is told anew at each piece. -/
namespace Go.Ab
open Go
def Own (σ : Nat → Option Nat) : Nat → Prop := fun k => ∃ b, σ b = some k
/-- The frame's state, as it stands. -/
structure Here (N : Nat) (s : St) (σ : Nat → Option Nat) (a : Act) (w : World) : Prop where
  fits : ∃ u, Fits N w (Own σ) σ u a w ∧ Sub s.u u
  fresh : ∀ b, s.lo ≤ b → b < s.hi → σ b = none
/-- All memory but the named blocks is as it was. -/
structure KeptBut (own : Nat → Prop) (w w' : World) : Prop where
  os : w'.os = w.os
  tape : w'.tape = w.tape
  output : w'.output = w.output
  grown : w.heap.size ≤ w'.heap.size
  frame : ∀ k, k < w.heap.size → ¬ own k → w'.heap[k]? = w.heap[k]?
theorem KeptBut.refl (own : Nat → Prop) (w : World) : KeptBut own w w := ⟨rfl, rfl, rfl, Nat.le_refl _, fun _ _ _ => rfl⟩
theorem Fits.rebase {N : Nat} {w0 : World} {own : Nat → Prop} {σ : Nat → Option Nat} {u : U} {a : Act} {w : World} (h : Fits N w0 own σ u a w) : Fits N w (Own σ) σ u a w :=
  { h with ownsR := fun b _ _ _ _ hs => .inl ⟨b, hs⟩, ownsO := fun b _ _ _ hs => .inl ⟨b, hs⟩, os := rfl, tape := rfl, output := rfl, grown := Nat.le_refl _, frame := fun _ _ _ => rfl }
theorem RunsTo.here {P : Program} {N : Nat} {c : Code} {s s' : St} {e : Ex} (h : RunsTo P N c s e s') {σ : Nat → Option Nat} {a : Act} {w : World} (hh : Here N s σ a w) {Q : Exit → Act → World → Prop}
    (hQ : ∀ σ' a' w', Here N s' σ' a' w' → Le σ σ' → (∀ b, σ b = none → (b < s.lo ∨ s.hi ≤ b) → σ' b = none) → KeptBut (Own σ) w w' → Q e.to a' w') : c.wp P Q a w := by
  obtain ⟨⟨u, hf, hs⟩, hn⟩ := hh
  refine h w (Own σ) σ s.lo s.hi a w ⟨σ, u, hf, hs, hn, Le.refl σ, fun b hb _ => hb, Nat.le_refl _, Nat.le_refl _⟩ Q fun a' w' hst => ?_
  obtain ⟨σ', u', hf', hs', hn', hl, ho, _, _⟩ := hst
  exact hQ σ' a' w' ⟨⟨u', hf'.rebase, hs'⟩, hn'⟩ hl ho ⟨hf'.os, hf'.tape, hf'.output, hf'.grown, hf'.frame⟩
/-- A function's begin, with arguments as they stand. -/
theorem Here.start {N : Nat} (vals : List Value) (w : World) (lo hi step : Nat) (hN : vals.length ≤ N) :
    Here N ⟨vals.map .val ++ List.replicate (N - vals.length) (.val undef), [], lo, hi, step, []⟩ (fun _ => none) { tmps := List.toArray vals ++ Array.replicate (N - (List.toArray vals).size) undef, defers := [] } w := by
  have hargsR : Rels (fun _ => none) (vals.map .val ++ List.replicate (N - vals.length) (.val undef)) (vals ++ List.replicate (N - vals.length) undef) := Rels.append (Rels.vals vals) (Rels.undefs _ _)
  refine ⟨⟨St.u ⟨vals.map .val ++ List.replicate (N - vals.length) (.val undef), [], lo, hi, step, []⟩, ⟨rfl, by simp; omega, fun t v hv => ?_, fun b e cs hb => ?_, fun b o hb => ?_, (fun _ _ _ h => by cases h), (fun _ _ h => by cases h), (fun _ _ _ _ _ h => by cases h), (fun _ _ _ _ h => by cases h), rfl, rfl, rfl, Nat.le_refl _, fun _ _ _ => rfl⟩, Sub.refl _⟩, fun _ _ _ => rfl⟩
  · simp only [St.u, stU, Option.map_eq_some_iff, Con.av.injEq] at hv
    obtain ⟨x, hx, rfl⟩ := hv
    obtain ⟨y, hy, hrel⟩ := Rels.get hargsR hx
    refine ⟨y, ?_, hrel⟩
    rw [← hy]
    have : (List.toArray vals ++ Array.replicate (N - (List.toArray vals).size) undef) = List.toArray (vals ++ List.replicate (N - vals.length) undef) := by
      apply Array.toList_inj.1; simp
    simp only [this, List.getElem?_toArray]
  · simp [St.u, stU, hget] at hb
  · simp [St.u, stU, hget] at hb
/-- A function's end. -/
theorem Here.results {P : Program} {fn : Func} {N : Nat} {s : St} {σ : Nat → Option Nat} {a : Act} {w : World} (h : Here N s σ a w) {as : List AV} (hr : resA P s fn.results.toList = some as) :
    ∃ v, (results fn a.tmps).run P w = .ok v w ∧ Rel σ (pack as) v ∧ a.defers = [] := by
  obtain ⟨⟨u, hf, hs⟩, _⟩ := h
  obtain ⟨v, h1, h2⟩ := run_results hf hs hr
  exact ⟨v, h1, h2, hf.defers⟩
theorem Here.tmp {N : Nat} {s : St} {σ : Nat → Option Nat} {a : Act} {w : World} (h : Here N s σ a w) {t : Nat} {v : AV} (ht : s.tmps[t]? = some v) : ∃ x, a.tmps[t]? = some x ∧ Rel σ v x := by
  obtain ⟨⟨u, hf, hs⟩, _⟩ := h
  exact hf.tmp t v (hs _ _ (by simp [St.u, stU, ht]))
/-- What the call must not touch, as it was. -/
structure Keep (F : Nat → Prop) (w0 w : World) : Prop where
  os : w.os = w0.os
  tape : w.tape = w0.tape
  output : w.output = w0.output
  grown : w0.heap.size ≤ w.heap.size
  frame : ∀ k, F k → k < w0.heap.size ∧ w.heap[k]? = w0.heap[k]?
theorem Keep.below {w w' : World} (h : Keep (fun k => k < w.heap.size) w w') : RowKit.Below w.heap.size w w' := ⟨h.os, h.tape, h.output, h.grown, fun k hk => (h.frame k hk).2⟩
theorem Keep.refl {F : Nat → Prop} {w : World} (h : ∀ k, F k → k < w.heap.size) : Keep F w w := ⟨rfl, rfl, rfl, Nat.le_refl _, fun k hk => ⟨h k hk, rfl⟩⟩
theorem Keep.trans {F G : Nat → Prop} {w0 w1 w2 : World} (h : Keep F w0 w1) (k : Keep G w1 w2) (hFG : ∀ x, F x → G x) : Keep F w0 w2 :=
  ⟨k.os.trans h.os, k.tape.trans h.tape, k.output.trans h.output, Nat.le_trans h.grown k.grown, fun x hx => ⟨(h.frame x hx).1, (k.frame x (hFG x hx)).2.trans (h.frame x hx).2⟩⟩
theorem Keep.lt {F : Nat → Prop} {w0 w : World} (h : Keep F w0 w) {k : Nat} (hk : F k) : k < w.heap.size := Nat.lt_of_lt_of_le (h.frame k hk).1 h.grown
theorem Keep.step {F : Nat → Prop} {w0 w w' : World} {own : Nat → Prop} (h : Keep F w0 w) (hm : ∀ r, own r → ¬ F r) (k : KeptBut own w w') : Keep F w0 w' :=
  ⟨k.os.trans h.os, k.tape.trans h.tape, k.output.trans h.output, Nat.le_trans h.grown k.grown, fun x hx => ⟨(h.frame x hx).1, (k.frame x (h.lt hx) (fun ho => hm x ho hx)).trans (h.frame x hx).2⟩⟩
/-- Each name that is told of is a block's that is told. -/
def okNamed (s : St) : Bool := (s.tmps.all fun a => (names a).all fun b => (hget s.heap b).isSome) && (noAv s.heap && s.heap.all fun p => (conNames p.2).all fun b => (hget s.heap b).isSome)
def pruneσ (σ : Nat → Option Nat) (H : Hp) : Nat → Option Nat := fun b => if (hget H b).isSome then σ b else none
theorem prune_some {σ : Nat → Option Nat} {H : Hp} {b r : Nat} (h : pruneσ σ H b = some r) : σ b = some r ∧ (hget H b).isSome := by
  unfold pruneσ at h
  split at h
  · rename_i h1; exact ⟨h, h1⟩
  · cases h
theorem prune_on {σ : Nat → Option Nat} {H : Hp} {b : Nat} (h : (hget H b).isSome) : pruneσ σ H b = σ b := by unfold pruneσ; rw [if_pos h]
mutual
theorem Rel.prune {σ : Nat → Option Nat} {H : Hp} : ∀ (a : AV) (v : Value), (∀ b ∈ names a, (hget H b).isSome) → Rel σ a v → Rel (pruneσ σ H) a v
  | .val _, _, _, k => by simpa only [Rel] using k
  | .ptr b _, _, hc, k => by simp only [Rel] at k ⊢; rw [prune_on (hc b (by simp [names]))]; exact k
  | .slice b _ _ _, _, hc, k => by simp only [Rel] at k ⊢; rw [prune_on (hc b (by simp [names]))]; exact k
  | .agg cs, _, hc, k => by simp only [Rel] at k ⊢; obtain ⟨r, h1, h2⟩ := k; exact ⟨r, h1, Rels.prune cs _ (fun b hb => hc b (by simpa [names] using hb)) h2⟩
  | .tuple cs, _, hc, k => by simp only [Rel] at k ⊢; obtain ⟨r, h1, h2⟩ := k; exact ⟨r, h1, Rels.prune cs _ (fun b hb => hc b (by simpa [names] using hb)) h2⟩
  | .func _ a b, _, hc, k => by
    simp only [Rel] at k ⊢
    obtain ⟨x, y, h1, h2, h3⟩ := k
    exact ⟨x, y, h1, Rels.prune a _ (fun d hd => hc d (by simp [names, hd])) h2, Rels.prune b _ (fun d hd => hc d (by simp [names, hd])) h3⟩
  | .map b, _, hc, k => by simp only [Rel] at k ⊢; rw [prune_on (hc b (by simp [names]))]; exact k
  | .any, _, _, _ => by simp only [Rel]
theorem Rels.prune {σ : Nat → Option Nat} {H : Hp} : ∀ (a : List AV) (v : List Value), (∀ b ∈ namesL a, (hget H b).isSome) → Rels σ a v → Rels (pruneσ σ H) a v
  | [], _, _, k => by simpa only [Rels] using k
  | a :: as, _, hc, k => by
    simp only [Rels] at k ⊢
    obtain ⟨x, xs, h1, h2, h3⟩ := k
    exact ⟨x, xs, h1, Rel.prune a x (fun b hb => hc b (by simp [namesL, hb])) h2, Rels.prune as xs (fun b hb => hc b (by simp [namesL, hb])) h3⟩
end
/-- The frame stands so, and what it must not touch is as it was. -/
def Stand (F : Nat → Prop) (w0 : World) (N : Nat) (s : St) (a : Act) (w : World) : Prop := ∃ σ, Here N s σ a w ∧ Keep F w0 w ∧ ∀ b r, σ b = some r → ¬ F r
theorem stand_of {F : Nat → Prop} {w0 : World} {N : Nat} {s : St} {σ σ' : Nat → Option Nat} {u' : U} {a' : Act} {w w' : World} (hk : Keep F w0 w) (hF : ∀ b r, σ b = some r → ¬ F r) (hf : Fits N w (Own σ) σ' u' a' w') (hs : Sub s.u u') (hn : ∀ b, s.lo ≤ b → b < s.hi → σ' b = none) (hok : okNamed s = true) :
    Stand F w0 N s a' w' := by
  have hw := hf.sub hs
  simp only [okNamed, Bool.and_eq_true, List.all_eq_true] at hok
  obtain ⟨hct, hno, hch⟩ := hok
  have hkept : KeptBut (Own σ) w w' := ⟨hf.os, hf.tape, hf.output, hf.grown, hf.frame⟩
  have hK : Keep F w0 w' := hk.step (fun r ⟨b, hb⟩ => hF b r hb) hkept
  refine ⟨pruneσ σ' s.heap, ⟨⟨s.u, ?_, fun l c h => h⟩, fun b h1 h2 => ?_⟩, hK, fun b r hb => ?_⟩
  · refine { hw with tmp := fun t v hv => ?_, row := fun b e cs hb => ?_, obj := fun b o hb => ?_, inj := fun b b' r h1 h2 => hw.inj b b' r (prune_some h1).1 (prune_some h2).1, bound := fun b r hb => hw.bound b r (prune_some hb).1, ownsR := fun b _ _ _ _ hr => .inl ⟨b, hr⟩, ownsO := fun b _ _ _ hr => .inl ⟨b, hr⟩, os := rfl, tape := rfl, output := rfl, grown := Nat.le_refl _, frame := fun _ _ _ => rfl }
    · obtain ⟨x, h3, h4⟩ := hw.tmp t v hv
      simp only [St.u, stU, Option.map_eq_some_iff] at hv
      obtain ⟨y, hy, e⟩ := hv
      cases e
      exact ⟨x, h3, Rel.prune v x (fun b hb => hct v (List.mem_of_getElem? hy) b hb) h4⟩
    · obtain ⟨r, vs, h3, h4, h5⟩ := hw.row b e cs hb
      have hm : hget s.heap b = some (.row e cs) := hb
      refine ⟨r, vs, by rw [prune_on (by rw [hm]; rfl)]; exact h3, h4, Rels.prune cs vs (fun d hd => ?_) h5⟩
      have hmem : ∀ (L : Hp), hget L b = some (.row e cs) → (b, Con.row e cs) ∈ L := by
        intro L
        induction L with
        | nil => intro h; simp [hget] at h
        | cons p L ih =>
          intro h
          obtain ⟨b', c'⟩ := p
          simp only [hget] at h
          split at h
          · rename_i e'
            cases h
            rw [Nat.eq_of_beq_eq_true e']
            simp
          · exact List.mem_cons_of_mem _ (ih h)
      exact hch _ (hmem _ hm) d hd
    · obtain ⟨r, o', h3, h4, h5⟩ := hw.obj b o hb
      have hm : hget s.heap b = some (.obj o) := hb
      exact ⟨r, o', by rw [prune_on (by rw [hm]; rfl)]; exact h3, h4, h5⟩
  · unfold pruneσ
    split
    · exact hn b h1 h2
    · rfl
  · obtain ⟨h1, h2⟩ := prune_some hb
    have key : Own σ r ∨ w.heap.size ≤ r := by
      obtain ⟨c, hc⟩ := Option.isSome_iff_exists.1 h2
      cases c with
      | row e cs => exact hw.ownsR b e cs r hc h1
      | obj o => exact hw.ownsO b o r hc h1
      | av v => exact absurd hc (noAv_spec hno b v)
    rcases key with ⟨b', hb'⟩ | h3
    · exact hF b' r hb'
    · intro hFr
      have := hk.lt hFr
      omega
/-- A piece of code that the interpreter runs. -/
theorem RunsTo.stand {P : Program} {N : Nat} {c : Code} {s s' : St} {e : Ex} (h : RunsTo P N c s e s') (hok : okNamed s' = true) {F : Nat → Prop} {w0 : World} {a : Act} {w : World} (hh : Stand F w0 N s a w) {Q : Exit → Act → World → Prop}
    (hQ : ∀ a' w', Stand F w0 N s' a' w' → Q e.to a' w') : c.wp P Q a w := by
  obtain ⟨σ, ⟨⟨u, hf, hs⟩, hn⟩, hk, hF⟩ := hh
  refine h w (Own σ) σ s.lo s.hi a w ⟨σ, u, hf, hs, hn, Le.refl σ, fun b hb _ => hb, Nat.le_refl _, Nat.le_refl _⟩ Q fun a' w' hst => ?_
  obtain ⟨σ', u', hf', hs', hn', _, _, _, _⟩ := hst
  exact hQ a' w' (stand_of hk hF hf' hs' hn' hok)
theorem Stand.start {N : Nat} (vals : List Value) (w : World) (lo hi step : Nat) (hN : vals.length ≤ N) :
    Stand (fun k => k < w.heap.size) w N ⟨vals.map .val ++ List.replicate (N - vals.length) (.val undef), [], lo, hi, step, []⟩ { tmps := List.toArray vals ++ Array.replicate (N - (List.toArray vals).size) undef, defers := [] } w :=
  ⟨_, Here.start vals w lo hi step hN, Keep.refl fun _ h => h, fun _ _ h => by cases h⟩
theorem Stand.results {P : Program} {fn : Func} {F : Nat → Prop} {w0 : World} {N : Nat} {s : St} {a : Act} {w : World} (h : Stand F w0 N s a w) {v : Value} (hr : resA P s fn.results.toList = some [.val v]) :
    (Go.results fn a.tmps).run P w = .ok v w ∧ a.defers = [] ∧ Keep F w0 w := by
  obtain ⟨σ, h1, h2, _⟩ := h
  obtain ⟨x, h3, h4, h5⟩ := h1.results hr
  simp only [pack, Rel] at h4
  subst h4
  exact ⟨h3, h5, h2⟩
/-- What is known less. -/
theorem Stand.weak {F : Nat → Prop} {w0 : World} {N : Nat} {s s' : St} {a : Act} {w : World} (h : Stand F w0 N s a w) (hw : Wk s'.u s.u) (hlo : s.lo ≤ s'.lo) (hhi : s'.hi ≤ s.hi) : Stand F w0 N s' a w := by
  obtain ⟨σ, ⟨⟨u, hf, hs⟩, hn⟩, hk, hF⟩ := h
  exact ⟨σ, ⟨⟨s'.u, (hf.sub hs).weak hw, Sub.refl _⟩, fun b h1 h2 => hn b (by omega) (by omega)⟩, hk, hF⟩
end Go.Ab
/- An argument that is a slice of plain data: its elements' cells. -/
namespace Go.Ab
open Go Go.ChangeShapes Go.WideShapes
section
variable {H : Type} {enc : TypeId × Value → H} {P : Program} {W : World} {spare : Nat → Bool} {held : Bool}
/-- A slice of plain data in memory. -/
def RowsAt (W : World) (ks : List Leaf) (a : Option Addr) (len cap : Nat) : Prop :=
  len ≤ cap ∧ cap ≤ maxLen ∧ (len = 0 ∨ ∃ a', a = some a' ∧ ∀ i, i < len → ∃ cs, Leafs ks cs ∧ W.cells? 0 (a'.add (i * ks.length)) ks.length = some cs)
theorem open_rows {n : Nat} {r : Reach} {b0 : Nat} {t e : TypeId} {v : Value} {d : DataW H} {ps : List MemPlace} {ks : List Leaf} (ht : P.underlying t = some (.slice e)) (hs : shape P n e = some ks) (hk : P.cellsOf e = ks.length)
    (hv : Value.okWide P W r b0 t v) (h : DataW.Trod enc P W 0 spare held t v d ps) :
    ∃ (a : Option Addr) (len cap : Nat), v = .slice a len cap ∧ (∀ x ∈ ps, x.block < W.heap.size) ∧ RowsAt W ks a len cap := by
  obtain ⟨a, len, cap, rfl⟩ := okWide_slice ht hv
  obtain ⟨fuel, hf⟩ := h
  have hlt := DataW.trod_lt fuel t _ _ hf
  rcases Go.Deep.open_slice ht hf with ⟨hcs, _⟩ | ⟨a', len', cap', m, n', D, Pl, hcs, _, hl, hm, hmm, _, hi⟩
  · simp [Value.cells] at hcs
    obtain ⟨rfl, rfl, rfl⟩ := hcs
    exact ⟨none, 0, 0, rfl, hlt, Nat.le_refl _, Nat.zero_le _, .inl rfl⟩
  · simp [Value.cells] at hcs
    obtain ⟨rfl, rfl, rfl⟩ := hcs
    refine ⟨some a', len, cap, rfl, hlt, hl, hm, .inr ⟨a', rfl, fun i hil => ?_⟩⟩
    have him : i < m := by rw [hmm]; split <;> omega
    obtain ⟨cs', h1, h2⟩ := hi i him
    rw [hk] at h1
    exact ⟨cs', (shape_spec n n' e ks cs' _ _ hs h2).1, h1⟩
end
/-- The cells of foreign memory, read later on. -/
theorem cells_old {F : Nat → Prop} {w0 w : World} (h : Keep F w0 w) {a : Addr} (hF : F a.block) {n : Nat} {cs : List Value} (hc : w0.cells? 0 a n = some cs) : w.cells? 0 a n = some cs := by
  by_cases hn : n = 0
  · subst hn
    simpa [World.cells?] using hc
  · have e : ∀ i, w.cell? (a.add i) = w0.cell? (a.add i) := by
      intro i
      have hb2 : (a.add i).block = a.block := by unfold Addr.add; split <;> rfl
      simp only [World.cell?, hb2, (h.frame _ hF).2]
    unfold World.cells? at hc ⊢
    simpa only [e] using hc
end Go.Ab
/- Regions by pieces: operations that the interpreter runs, and single ones by hand. -/
namespace Go.Ab
open Go
section
variable {P : Program} {N : Nat} {ops : Array Oper} {Q : Exit → Act → World → Prop} {w0 : World} {own : Nat → Prop}
theorem chain_rest : ∀ (items : List It) (rest : List Nat) (u u' : U) (σ : Nat → Option Nat) (a : Act) (w : World), Chain P N ops items u u' → Fits N w0 own σ u a w → Fresh items σ → items.Pairwise Apart →
    (∀ σ' a' w', Le σ σ' → Out items σ σ' → Fits N w0 own σ' u' a' w' → wpOps P ops Q rest a' w') → wpOps P ops Q (items.map (·.i) ++ rest) a w
  | [], rest, u, u', σ, a, w, hc, hf, _, _, hQ => by
    simp only [Chain] at hc
    subst hc
    exact hQ σ a w (Le.refl σ) (fun _ h _ => h) hf
  | it :: r, rest, u, u', σ, a, w, hc, hf, hn, hp, hQ => by
    obtain ⟨h1, h2, h3⟩ := hc
    simp only [List.map_cons, List.cons_append, wpOps_cons]
    rw [List.pairwise_cons] at hp
    refine h2 Q w0 own σ u a w hf h1 (hn it (List.mem_cons_self ..)) _ fun σ' a' w' hle hout hf' => ?_
    refine chain_rest r rest _ u' σ' a' w' h3 hf' (fun x hx b hb1 hb2 => ?_) hp.2 fun σ'' a'' w'' hle' hout' hf'' => ?_
    · refine hout b (hn x (List.mem_cons_of_mem _ hx) b hb1 hb2) ?_
      rcases hp.1 x hx with h | h <;> omega
    · refine hQ σ'' a'' w'' (hle.trans hle') (fun b hb hb' => ?_) hf''
      exact hout' b (hout b hb (hb' it (List.mem_cons_self ..))) fun x hx => hb' x (List.mem_cons_of_mem _ hx)
theorem opsRun_stand {β : Type} {call : CallR β} {qf : FuncId → Bool} (hcall : CallOk P call) {l : List Oper} {k : Nat} {s : St} {K : St → List Foot → Option β} {res : β} (h : opsRun P call qf N ops l s [] K = some res) (hl : ∀ j o, l[j]? = some o → ops[k + j]? = some o)
    {F : Nat → Prop} {w0 : World} {a : Act} {w : World} (hh : Stand F w0 N s a w) (rest : List Nat) {s1 : St} (hok : okNamed s1 = true) (hroom : ∀ s' feet, K s' feet = some res → (s'.lo ≤ s'.hi ∨ s'.lo = s.lo) ∧ Wk s1.u s'.u ∧ s'.lo ≤ s1.lo ∧ s1.hi ≤ s'.hi)
    (hK : ∀ a' w', Stand F w0 N s1 a' w' → wpOps P ops Q rest a' w') : wpOps P ops Q ((List.range l.length).map (k + ·) ++ rest) a w := by
  obtain ⟨items, s', h1, h2, h3, h4, h5, h6, _, _⟩ := opsRun_sound hcall l k s [] h hl
  obtain ⟨σ, ⟨⟨u, hf, hs⟩, hn⟩, hk, hF⟩ := hh
  obtain ⟨u', hc, hs'⟩ := h2 u hs
  have hb := h5.bounds
  obtain ⟨hrm, hwk, hlo, hhi⟩ := hroom s' _ h1
  have hix : items.map (·.i) = (List.range l.length).map (k + ·) := by
    apply List.ext_getElem
    · simp [h3]
    · intro j hj1 hj2
      simp only [List.getElem_map, List.getElem_range]
      exact h4 j _ (List.getElem?_eq_getElem (by simpa using hj1))
  rw [← hix]
  have hfresh : Fresh items σ := by
    intro it hit b hb1 hb2
    have := hb.2 it hit
    exact hn b (by omega) (by omega)
  refine chain_rest items rest u u' σ a w hc hf hfresh h5.apart fun σ' a' w' hle hout hf' => ?_
  refine hK a' w' (stand_of hk hF ((hf'.sub hs').weak hwk) (Sub.refl _) (fun b hb1 hb2 => ?_) hok)
  refine hout b (hn b (by omega) (by omega)) fun it hit => ?_
  have := hb.2 it hit
  omega
/-- One operation by hand, that gives a value and leaves the world. -/
theorem op_stand {k d : Nat} {o : Oper} (ho : ops[k]? = some o) (hg : o.guard = none) (hd : o.dst = some d) (hdN : d < N) {s : St} (hlen : s.tmps.length = N) {F : Nat → Prop} {w0 : World} {a : Act} {w : World} (hh : Stand F w0 N s a w) {v : Value}
    (hrun : (execOp a.eval o).run P w = .ok (.value v) w) (rest : List Nat) (hK : ∀ a', Stand F w0 N { s with tmps := s.tmps.set d (.val v) } a' w → wpOps P ops Q rest a' w) : wpOps P ops Q (k :: rest) a w := by
  rw [wpOps_cons]
  unfold wpOp
  rw [ho]
  simp only
  rw [if_pos (by simp [Region.wanted, hg])]
  refine .inl ?_
  unfold Oper.wp
  rw [hrun, Oper.upon_value, hd]
  refine hK _ ?_
  obtain ⟨σ, ⟨⟨u, hf, hs⟩, hn⟩, hk, hF⟩ := hh
  refine ⟨σ, ⟨⟨upd1 u (.tmp d) (.av (.val v)), hf.put hdN (by simp only [Rel]), fun l c h => ?_⟩, hn⟩, hk, hF⟩
  cases l with
  | blk b => simpa [upd1] using hs (.blk b) c h
  | tmp t =>
    by_cases e : t = d
    · subst e
      simp only [St.u, stU, List.getElem?_set_self (by omega : t < s.tmps.length), Option.map_some, Option.some.injEq] at h
      subst h
      simp [upd1]
    · simp only [St.u, stU, List.getElem?_set_ne (Ne.symm e)] at h
      have : upd1 u (.tmp d) (.av (.val v)) (.tmp t) = u (.tmp t) := by simp [upd1, e]
      rw [this]
      exact hs _ _ h
end
theorem Stand.eval {F : Nat → Prop} {w0 : World} {N : Nat} {s : St} {a : Act} {w : World} (h : Stand F w0 N s a w) {t : Nat} {v : Value} (ht : s.tmps[t]? = some (.val v)) : a.eval (.tmp t) = v := by
  obtain ⟨σ, h1, _⟩ := h
  obtain ⟨x, h1, h2⟩ := h1.tmp ht
  simp only [Rel] at h2
  subst h2
  simp [Act.eval, h1]
theorem Stand.keep {F : Nat → Prop} {w0 : World} {N : Nat} {s : St} {a : Act} {w : World} (h : Stand F w0 N s a w) : Keep F w0 w := by obtain ⟨_, _, h, _⟩ := h; exact h
theorem run_loadFrom {P : Program} {w : World} {a : Addr} : ∀ (n i : Nat) (cs : List Value) (acc : Array Value), cs.length = n → (∀ j c, cs[j]? = some c → w.cell? (a.add (i + j)) = some c) → (loadCellsFrom a i n acc).run P w = .ok (acc ++ List.toArray cs) w
  | 0, i, cs, acc, hl, _ => by
    cases cs with
    | nil => simp [loadCellsFrom]
    | cons c r => simp at hl
  | n + 1, i, [], acc, hl, _ => by simp at hl
  | n + 1, i, c :: r, acc, hl, hc => by
    have h0 : w.cell? (a.add i) = some c := by simpa using hc 0 c rfl
    have ih := run_loadFrom (P := P) (w := w) (a := a) n (i + 1) r (acc.push c) (by simpa using hl) fun j d hj => by
      have := hc (j + 1) d (by simpa using hj)
      rwa [show i + (j + 1) = i + 1 + j by omega] at this
    simp only [loadCellsFrom, Sem.run_bind, run_load, h0, Result.andThen_ok, ih]
    simp
/-- A struct or array out of foreign memory. -/
theorem run_loadForeign {P : Program} {w : World} {t : TypeId} {d : TypeDesc} {i : TypeInfo} {a : Addr} {cs : List Value} (hd : P.underlying t = some d) (hagg : isAggD d = true) (hi : P.info? t = some i) (hc : w.cells? 0 a i.size = some cs) :
    (loadVar t a).run P w = .ok (.agg (List.toArray cs)) w := by
  obtain ⟨_, hl, hat⟩ := World.cells?_some hc
  unfold loadVar
  rw [Sem.run_bind, run_isAgg hd w, hagg]
  simp only [Result.andThen_ok, if_true, Sem.run_bind, run_sizeOf hi w]
  have := run_loadFrom (P := P) (w := w) (a := a) i.size 0 cs #[] (by omega) fun j c hj => by
    have hjl : j < i.size := by have := (List.getElem?_eq_some_iff.1 hj).1; omega
    rw [Nat.zero_add, hat j hjl, hj]
  unfold loadCells
  rw [this]
  simp
end Go.Ab
/- What a round has made is forgotten behind it. -/
namespace Go.Ab
open Go
def okClean (lo : Nat) (s : St) : Bool := (s.tmps.all fun a => (names a).all fun b => Nat.blt b lo) && s.heap.all fun p => Nat.blt p.1 lo && (conNames p.2).all fun b => Nat.blt b lo
theorem hget_mem : ∀ {H : Hp} {b : Nat} {c : Con}, hget H b = some c → (b, c) ∈ H
  | [], b, c, h => by simp [hget] at h
  | (b', c') :: r, b, c, h => by
    simp only [hget] at h
    split at h
    · rename_i e
      cases h
      rw [Nat.eq_of_beq_eq_true e]
      simp
    · exact List.mem_cons_of_mem _ (hget_mem h)
theorem Stand.cut {F : Nat → Prop} {w0 : World} {N : Nat} {s : St} {a : Act} {w : World} (h : Stand F w0 N s a w) {lo hi : Nat} (hc : okClean lo s = true) : Stand F w0 N { s with lo := lo, hi := hi } a w := by
  obtain ⟨σ, ⟨⟨u, hf, hs⟩, hn⟩, hk, hF⟩ := h
  have hw := hf.sub hs
  simp only [okClean, Bool.and_eq_true, List.all_eq_true, Nat.blt_eq] at hc
  obtain ⟨hct, hch⟩ := hc
  have hcl : ∀ l c, s.u l = some c → CleanC lo hi c := by
    intro l c hl
    cases l with
    | tmp t =>
      simp only [St.u, stU, Option.map_eq_some_iff] at hl
      obtain ⟨x, hx, rfl⟩ := hl
      intro b hb
      have := hct x (List.mem_of_getElem? hx) b hb
      unfold cleanB
      omega
    | blk b =>
      have hm := hget_mem (H := s.heap) hl
      have := (hch _ hm).2
      cases c with
      | av x => intro d hd; have := this d hd; unfold cleanB; omega
      | row e cs => intro d hd; have := this d hd; unfold cleanB; omega
      | obj o => trivial
  have hbl : ∀ b c, s.u (.blk b) = some c → cleanB lo hi b := by
    intro b c hl
    have hm := hget_mem (H := s.heap) hl
    have := (hch _ hm).1
    unfold cleanB
    omega
  refine ⟨cutσ σ lo hi, ⟨⟨s.u, ?_, fun l c h => h⟩, fun b hb1 hb2 => ?_⟩, hk, fun b r hb => hF b r (cutσ_some hb)⟩
  · refine { hw with tmp := fun t v hv => ?_, row := fun b e cs hb => ?_, obj := fun b o hb => ?_, inj := fun b b' r h1 h2 => hw.inj b b' r (cutσ_some h1) (cutσ_some h2), bound := fun b r hb => hw.bound b r (cutσ_some hb), ownsR := fun b _ _ _ _ hr => .inl ⟨b, hr⟩, ownsO := fun b _ _ _ hr => .inl ⟨b, hr⟩, os := rfl, tape := rfl, output := rfl, grown := Nat.le_refl _, frame := fun _ _ _ => rfl }
    · obtain ⟨x, h3, h4⟩ := hw.tmp t v hv
      exact ⟨x, h3, Rel.cut v x (hcl _ _ hv) h4⟩
    · obtain ⟨r, vs, h3, h4, h5⟩ := hw.row b e cs hb
      exact ⟨r, vs, by rw [cutσ_clean (hbl b _ hb)]; exact h3, h4, Rels.cut cs vs (hcl _ _ hb) h5⟩
    · obtain ⟨r, o', h3, h4, h5⟩ := hw.obj b o hb
      exact ⟨r, o', by rw [cutσ_clean (hbl b _ hb)]; exact h3, h4, h5⟩
  · unfold cutσ
    rw [if_pos ⟨hb1, hb2⟩]
end Go.Ab
/- Pieces whose end is told in part. -/
namespace Go.Ab
open Go
def dropSt (keep : List Nat) (G : List Nat) (s : St) : St := { maskSt G s with heap := subheap s.heap keep }
theorem Sub.wk {u' u : U} (h : Sub u' u) : Wk u' u := fun l c hc => ⟨c, h l c hc, WkC.refl c⟩
theorem Wk.trans {a b c : U} (h : Wk a b) (k : Wk b c) : Wk a c := by
  intro l x hx
  obtain ⟨y, h1, h2⟩ := h l x hx
  obtain ⟨z, h3, h4⟩ := k l y h1
  refine ⟨z, h3, ?_⟩
  cases x with
  | av x =>
    cases y with
    | av y =>
      cases z with
      | av z => exact fun σ v hv => h2 σ v (h4 σ v hv)
      | row _ _ => exact h4.elim
      | obj _ => exact h4.elim
    | row _ _ => exact h2.elim
    | obj _ => exact h2.elim
  | row e cs =>
    cases y with
    | av y => exact h2.elim
    | row e' cs' =>
      cases z with
      | av z => exact h4.elim
      | row e'' cs'' => exact ⟨h4.1.trans h2.1, fun σ vs hv => h2.2 σ vs (h4.2 σ vs hv)⟩
      | obj _ => exact h4.elim
    | obj _ => exact h2.elim
  | obj o =>
    cases y with
    | av y => exact h2.elim
    | row _ _ => exact h2.elim
    | obj o' =>
      cases z with
      | av z => exact h4.elim
      | row _ _ => exact h4.elim
      | obj o'' =>
        have h2 : o' = o := h2
        have h4 : o'' = o' := h4
        show o'' = o
        rw [h4, h2]
theorem dropSt_wk (keep G : List Nat) (s : St) : Wk (dropSt keep G s).u s.u := by
  refine Wk.trans (b := (maskSt G s).u) (Sub.wk fun l c h => ?_) (maskSt_wk G s)
  cases l with
  | blk b => exact hget_subheap (l := keep) h
  | tmp t => exact h
theorem runs_drop {P : Program} {N : Nat} {call : CallP} (hcall : ∀ β, CallOk P (call β)) {wy : Way} {F : Nat} {c : Code} {s s1 : St} {e : Ex} (keep G : List Nat)
    (h : run P call N wy [] F (Ex × St) c s (fun e s' => some (e, dropSt keep G s')) = some (e, s1)) : RunsTo P N c s e s1 := by
  obtain ⟨e', s', h1, h2, _⟩ := (run_sound hcall F).1 (Ex × St) (e, s1) c s _ (HFit.nil c) h
  simp only [Option.some.injEq, Prod.mk.injEq] at h1
  obtain ⟨rfl, rfl⟩ := h1
  exact h2.weak_end (dropSt_wk keep G s') (Nat.le_refl _) (Nat.le_refl _)
/-- The same, by hints. -/
theorem runs_dropH {P : Program} {N : Nat} {call : CallP} (hcall : ∀ β, CallOk P (call β)) {wy : Way} {hB : Hints} {F : Nat} {c : Code} (hfit : HFit P N hB c) {s s1 : St} {e : Ex} (keep G : List Nat)
    (h : run P call N wy hB F (Ex × St) c s (fun e s' => some (e, dropSt keep G s')) = some (e, s1)) : RunsTo P N c s e s1 := by
  obtain ⟨e', s', h1, h2, _⟩ := (run_sound hcall F).1 (Ex × St) (e, s1) c s _ hfit h
  simp only [Option.some.injEq, Prod.mk.injEq] at h1
  obtain ⟨rfl, rfl⟩ := h1
  exact h2.weak_end (dropSt_wk keep G s') (Nat.le_refl _) (Nat.le_refl _)
/-- What operations left, told in part. -/
def endOps (keep G : List Nat) : St → List Foot → Option (Bool × St) := fun s _ => forceN s.lo fun lo => forceN s.hi fun hi => some (Nat.ble lo hi, dropSt keep G s)
theorem ops_stand {P : Program} {N : Nat} {ops : Array Oper} {Q : Exit → Act → World → Prop} {call : CallR (Bool × St)} {qf : FuncId → Bool} (hcall : CallOk P call) {l : List Oper} {k : Nat} {s s1 : St} (keep G : List Nat) (h : opsRun P call qf N ops l s [] (endOps keep G) = some (true, s1))
    (hl : ∀ j o, l[j]? = some o → ops[k + j]? = some o) (hok : okNamed s1 = true) {F : Nat → Prop} {w0 : World} {a : Act} {w : World} (hh : Stand F w0 N s a w) (rest : List Nat) (hK : ∀ a' w', Stand F w0 N s1 a' w' → wpOps P ops Q rest a' w') : wpOps P ops Q ((List.range l.length).map (k + ·) ++ rest) a w := by
  refine opsRun_stand hcall h hl hh rest hok (fun s' feet he => ?_) hK
  simp only [endOps, forceN_eq, Option.some.injEq, Prod.mk.injEq] at he
  rw [← he.2]
  exact ⟨.inl (Nat.le_of_ble_eq_true he.1), dropSt_wk keep G s', Nat.le_refl _, Nat.le_refl _⟩
end Go.Ab
/- An element of foreign memory: its address, and what lies there. -/
namespace Go.Ab
open Go
def seqL : Code → Code | .seq a _ => a | c => c
def seqR : Code → Code | .seq _ b => b | c => c
def inB : Code → Code | .block _ c => c | .loop c => c | c => c
def ifT : Code → Code | .cond _ a _ => a | c => c
def ifE : Code → Code | .cond _ _ b => b | c => c
def regO : Code → Array Oper | .region _ ops _ => ops | _ => #[]
/-- What an operation is. -/
def sigOf (ops : Array Oper) (k : Nat) : Option (Op × Option Nat × Bool) := (ops[k]?).map fun o => (o.op, o.dst, o.guard.isNone)
theorem sigOf_some {ops : Array Oper} {k : Nat} {op : Op} {d : Option Nat} (h : sigOf ops k = some (op, d, true)) : ∃ o, ops[k]? = some o ∧ o.op = op ∧ o.dst = d ∧ o.guard = none := by
  unfold sigOf at h
  cases ho : ops[k]? with
  | none => rw [ho] at h; cases h
  | some o =>
    rw [ho] at h
    simp only [Option.map_some, Option.some.injEq, Prod.mk.injEq, Option.isNone_iff_eq_none] at h
    exact ⟨o, rfl, h.1, h.2.1, h.2.2⟩
theorem run_loadScalar {P : Program} {w : World} {t : TypeId} {d : TypeDesc} {a : Addr} {v : Value} (hd : P.underlying t = some d) (hagg : isAggD d = false) (hc : w.cell? a = some v) : (loadVar t a).run P w = .ok v w := by
  unfold loadVar
  rw [Sem.run_bind, run_isAgg hd w, hagg]
  simp only [Result.andThen_ok, Bool.false_eq_true, if_false, run_load, hc]
section
variable {P : Program} {N : Nat} {ops : Array Oper} {Q : Exit → Act → World → Prop} {F : Nat → Prop} {w0 : World} {s : St} {a : Act} {w : World}
theorem move_stand {k d : Nat} {x : Operand} (hs : sigOf ops k = some (.move x, some d, true)) (hd : d < N) (hlen : s.tmps.length = N) (hh : Stand F w0 N s a w) {v : Value} (hx : a.eval x = v) (rest : List Nat)
    (hK : ∀ a', Stand F w0 N { s with tmps := s.tmps.set d (.val v) } a' w → wpOps P ops Q rest a' w) : wpOps P ops Q (k :: rest) a w := by
  obtain ⟨o, ho, hop, hdst, hg⟩ := sigOf_some hs
  exact op_stand ho hg hdst hd hlen hh (by simp only [execOp, hop, hx, Sem.run_pure]) rest hK
theorem assign_stand {k d : Nat} {x : Operand} (hs : sigOf ops k = some (.assign x, some d, true)) (hd : d < N) (hlen : s.tmps.length = N) (hh : Stand F w0 N s a w) {v : Value} (hx : a.eval x = v) (rest : List Nat)
    (hK : ∀ a', Stand F w0 N { s with tmps := s.tmps.set d (.val v) } a' w → wpOps P ops Q rest a' w) : wpOps P ops Q (k :: rest) a w := by
  obtain ⟨o, ho, hop, hdst, hg⟩ := sigOf_some hs
  exact op_stand ho hg hdst hd hlen hh (by simp only [execOp, hop, hx, Sem.run_pure]) rest hK
theorem index_stand {k d : Nat} {t elem : TypeId} {x ix : Operand} {ti : TypeInfo} (hs : sigOf ops k = some (.indexAddr t x ix, some d, true)) (hd : d < N) (hlen : s.tmps.length = N) (hu : P.underlying t = some (.slice elem)) (hi : P.info? elem = some ti)
    (hh : Stand F w0 N s a w) {b : Addr} {len cap i : Nat} {ik : IntKind} (hx : a.eval x = .slice (some b) len cap) (hix : a.eval ix = .int ik i) (hlt : i < len) (rest : List Nat)
    (hK : ∀ a', Stand F w0 N { s with tmps := s.tmps.set d (.val (.pointer (some (b.add (i * ti.size))))) } a' w → wpOps P ops Q rest a' w) : wpOps P ops Q (k :: rest) a w := by
  obtain ⟨o, ho, hop, hdst, hg⟩ := sigOf_some hs
  refine op_stand ho hg hdst hd hlen hh (v := .pointer (some (b.add (i * ti.size)))) ?_ rest hK
  have hb : 0 ≤ (i : Int) ∧ (i : Int) < (len : Int) := by omega
  simp only [execOp, hop, Instr.indexAt, hix, asIntOf, Sem.run_bind, run_underlying hu, Result.andThen_ok, hx, Sem.run_pure, Sem.run_ite, if_pos hb, run_sizeOf hi, Int.toNat_natCast]
theorem load_stand {k d : Nat} {t : TypeId} {x : Operand} (hs : sigOf ops k = some (.load t x, some d, true)) (hd : d < N) (hlen : s.tmps.length = N) (hh : Stand F w0 N s a w) {b : Addr} (hx : a.eval x = .pointer (some b)) {v : Value} (hv : (loadVar t b).run P w = .ok v w) (rest : List Nat)
    (hK : ∀ a', Stand F w0 N { s with tmps := s.tmps.set d (.val v) } a' w → wpOps P ops Q rest a' w) : wpOps P ops Q (k :: rest) a w := by
  obtain ⟨o, ho, hop, hdst, hg⟩ := sigOf_some hs
  refine op_stand ho hg hdst hd hlen hh ?_ rest hK
  simp only [execOp, hop, Instr.loadAt, hx, Instr.sureAddr, Sem.run_bind, Sem.run_pure, Result.andThen_ok, hv]
end
end Go.Ab
