/- A part of the proof of 'VecScale': lemmas, no statement of their own; no condition. -/
import Derived.Test.YtgccejhdohpojaaAbH
namespace Go.Ab
variable {β : Type}

structure It where
  i : Nat
  rd : Wr
  wr : Wr
  lo : Nat
  hi : Nat

def Chain (P : Program) (N : Nat) (ops : Array Oper) : List It → U → U → Prop
  | [], u, u' => u' = u
  | it :: r, u, u' => (∀ x ∈ it.rd, u x.1 = some x.2) ∧ Exec P N ops it.i it.rd it.wr it.lo it.hi ∧ Chain P N ops r (upd u it.wr) u'

def Fresh (items : List It) (σ : Nat → Option Nat) : Prop := ∀ it ∈ items, ∀ b, it.lo ≤ b → b < it.hi → σ b = none
def Out (items : List It) (σ σ' : Nat → Option Nat) : Prop := ∀ b, σ b = none → (∀ it ∈ items, b < it.lo ∨ it.hi ≤ b) → σ' b = none
/-- The names of two items are apart. -/
def Apart (a b : It) : Prop := a.hi ≤ b.lo ∨ b.hi ≤ a.lo

section
variable {P : Program} {N : Nat} {ops : Array Oper} {Q : Exit → Act → World → Prop} {w0 : World} {own : Nat → Prop}

theorem chain_seq : ∀ (items : List It) (u u' : U) (σ : Nat → Option Nat) (a : Act) (w : World), Chain P N ops items u u' → Fits N w0 own σ u a w → Fresh items σ → items.Pairwise Apart →
    (∀ σ' a' w', Le σ σ' → Out items σ σ' → Fits N w0 own σ' u' a' w' → Q .normal a' w') → wpOps P ops Q (items.map (·.i)) a w
  | [], u, u', σ, a, w, hc, hf, _, _, hQ => by
    simp only [Chain] at hc
    subst hc
    exact hQ σ a w (Le.refl σ) (fun _ h _ => h) hf
  | it :: r, u, u', σ, a, w, hc, hf, hn, hp, hQ => by
    obtain ⟨h1, h2, h3⟩ := hc
    simp only [List.map_cons, wpOps_cons]
    rw [List.pairwise_cons] at hp
    refine h2 Q w0 own σ u a w hf h1 (hn it (List.mem_cons_self ..)) _ fun σ' a' w' hle hout hf' => ?_
    refine chain_seq r _ u' σ' a' w' h3 hf' (fun x hx b hb1 hb2 => ?_) hp.2 fun σ'' a'' w'' hle' hout' hf'' => ?_
    · refine hout b (hn x (List.mem_cons_of_mem _ hx) b hb1 hb2) ?_
      rcases hp.1 x hx with h | h <;> omega
    · refine hQ σ'' a'' w'' (hle.trans hle') (fun b hb hb' => ?_) hf''
      exact hout' b (hout b hb (hb' it (List.mem_cons_self ..))) fun x hx => hb' x (List.mem_cons_of_mem _ hx)

/-- Two items that touch nothing in common that either writes. -/
def Indep (a b : It) : Prop :=
  (∀ p ∈ a.wr, ∀ q ∈ b.rd, p.1 ≠ q.1) ∧ (∀ p ∈ a.wr, ∀ q ∈ b.wr, p.1 ≠ q.1) ∧ (∀ p ∈ a.rd, ∀ q ∈ b.wr, p.1 ≠ q.1)

/-- What is laid over, apart from all that a chain touches, may be laid first. -/
theorem Chain.over {wr : Wr} : ∀ {items : List It} {u u' : U}, Chain P N ops items u u' → (∀ it ∈ items, (∀ p ∈ wr, ∀ q ∈ it.rd, q.1 ≠ p.1) ∧ (∀ p ∈ wr, ∀ q ∈ it.wr, q.1 ≠ p.1)) →
    Chain P N ops items (upd u wr) (upd u' wr)
  | [], u, u', h, _ => by simp only [Chain] at h ⊢; rw [h]
  | it :: r, u, u', h, hd => by
    obtain ⟨h1, h2, h3⟩ := h
    have hd0 := hd it (List.mem_cons_self ..)
    refine ⟨fun x hx => ?_, h2, ?_⟩
    · rw [upd_none _ _ _ fun p hp e => hd0.1 p hp x hx e.symm]
      exact h1 x hx
    · rw [upd_comm u wr it.wr fun p hp q hq e => hd0.2 p hp q hq e.symm]
      exact Chain.over h3 fun x hx => hd x (List.mem_cons_of_mem _ hx)

theorem Chain.append : ∀ {a b : List It} {u v w : U}, Chain P N ops a u v → Chain P N ops b v w → Chain P N ops (a ++ b) u w
  | [], _, _, _, _, h, k => by simp only [Chain] at h; subst h; exact k
  | _ :: _, _, _, _, _, h, k => ⟨h.1, h.2.1, Chain.append h.2.2 k⟩
theorem Chain.split : ∀ {a b : List It} {u w : U}, Chain P N ops (a ++ b) u w → ∃ v, Chain P N ops a u v ∧ Chain P N ops b v w
  | [], _, u, _, h => ⟨u, rfl, h⟩
  | _ :: _, _, _, _, h => by
    obtain ⟨v, h1, h2⟩ := Chain.split h.2.2
    exact ⟨v, ⟨h.1, h.2.1, h1⟩, h2⟩

/-- What a chain doesn't write stays. -/
theorem Chain.stays : ∀ {items : List It} {u u' : U} {l : Loc}, Chain P N ops items u u' → (∀ it ∈ items, ∀ p ∈ it.wr, p.1 ≠ l) → u' l = u l
  | [], u, u', l, h, _ => by simp only [Chain] at h; rw [h]
  | it :: r, u, u', l, h, hd => by
    rw [Chain.stays h.2.2 fun x hx => hd x (List.mem_cons_of_mem _ hx), upd_none _ _ _ (hd it (List.mem_cons_self ..))]

/-- The item in the midst, apart from all ahead of it, comes first. -/
theorem Chain.first {pre post : List It} {it : It} {u u' : U} (h : Chain P N ops (pre ++ it :: post) u u') (hi : ∀ p ∈ pre, Indep p it) : Chain P N ops (it :: (pre ++ post)) u u' := by
  obtain ⟨v, h1, h2, h3, h4⟩ := Chain.split h
  refine ⟨fun x hx => ?_, h3, ?_⟩
  · rw [← Chain.stays h1 fun p hp q hq => (hi p hp).1 q hq x hx]
    exact h2 x hx
  · refine Chain.append (Chain.over h1 fun p hp => ⟨fun q hq r hr => (hi p hp).2.2 r hr q hq, fun q hq r hr => (hi p hp).2.1 r hr q hq⟩) h4

/-- Whoever is listed, those that he waits for are. -/
def Closed (ops : Array Oper) (ls : Array Bool) : Prop := ∀ (j : Nat) (o : Oper), ops[j]? = some o → ls.getD j false = true → ∀ e ∈ o.after, Region.binds .any e = true → ls.getD e.on false = true

theorem Closed.set {ops : Array Oper} {ls : Array Bool} (h : Closed ops ls) {i : Nat} (hi : i ∈ Region.ready .any ops ls) : Closed ops (ls.setIfInBounds i true) := by
  obtain ⟨_, o0, h2, h3⟩ := mem_ready.1 hi
  intro j o ho hj e he hb
  by_cases e1 : i = j
  · subst e1
    rw [ho] at h2
    cases h2
    exact getD_set_true (h3 e he hb)
  · rw [getD_set_ne false e1] at hj
    exact getD_set_true (h j o ho hj e he hb)

/-- Whatever order the edges allow. 'Ready' tells of each item that may come up that those ahead of it are apart from it. -/
theorem chain_any : ∀ (n : Nat) (items : List It) (listed : Array Bool) (u u' : U) (σ : Nat → Option Nat) (a : Act) (w : World), items.length = n → Chain P N ops items u u' → Fits N w0 own σ u a w → Fresh items σ → items.Pairwise Apart →
    listed.size = ops.size → (∀ j, j < ops.size → (listed.getD j true = false ↔ ∃ it ∈ items, it.i = j)) → (∀ it ∈ items, it.i < ops.size) → (items.map (·.i)).Nodup →
    Closed ops listed → (∀ (pre post : List It) (it : It) (ls : Array Bool), Closed ops ls → (pre ++ it :: post).Sublist items →
      it.i ∈ Region.ready .any ops ls → (∀ p ∈ pre, ls.getD p.i true = false) → ∀ p ∈ pre, Indep p it) →
    (∀ (ls : Array Bool) (l : List It), ls.size = ops.size → l.Sublist items → l ≠ [] → (∀ j, j < ops.size → (ls.getD j true = false ↔ ∃ it ∈ l, it.i = j)) → Region.ready .any ops ls ≠ []) →
    (∀ σ' a' w', Le σ σ' → Out items σ σ' → Fits N w0 own σ' u' a' w' → Q .normal a' w') → wpAny P .any ops Q n listed a w
  | 0, items, listed, u, u', σ, a, w, hl, hc, hf, _, _, hls, hli, _, _, _, _, _, hQ => by
    have : items = [] := List.eq_nil_of_length_eq_zero hl
    subst this
    simp only [Chain] at hc
    subst hc
    refine ⟨?_, hQ σ a w (Le.refl σ) (fun _ h _ => h) hf⟩
    cases hr : Region.ready .any ops listed with
    | nil => rfl
    | cons x xs =>
      have hx : x ∈ Region.ready .any ops listed := by rw [hr]; simp
      obtain ⟨h1, o, h2, _⟩ := mem_ready.1 hx
      have hlt : x < ops.size := (Array.getElem?_eq_some_iff.1 h2).1
      obtain ⟨it, h3, _⟩ := (hli x hlt).1 h1
      cases h3
  | n + 1, items, listed, u, u', σ, a, w, hl, hc, hf, hn, hp, hls, hli, hlt, hnd, hcl, hind, hne, hQ => by
    refine ⟨fun h0 => absurd h0 (hne listed items hls (List.Sublist.refl _) (by intro e; subst e; cases hl) hli), fun j hj => ?_⟩
    obtain ⟨h1, o, h2, _⟩ := mem_ready.1 hj
    have hjlt : j < ops.size := (Array.getElem?_eq_some_iff.1 h2).1
    obtain ⟨it, hit, rfl⟩ := (hli j hjlt).1 h1
    obtain ⟨pre, post, rfl⟩ := List.append_of_mem hit
    have hpre : ∀ p ∈ pre, listed.getD p.i true = false := fun p hpp => (hli p.i (hlt p (by simp [hpp]))).2 ⟨p, by simp [hpp], rfl⟩
    have hc' := Chain.first hc (hind pre post it listed hcl (List.Sublist.refl _) hj hpre)
    obtain ⟨c1, c2, c3⟩ := hc'
    have hsub : (pre ++ post).Sublist (pre ++ it :: post) := List.Sublist.append (List.Sublist.refl _) (List.sublist_cons_self ..)
    have hsubm : ∀ p ∈ pre ++ post, p ∈ pre ++ it :: post := fun p hpp => hsub.subset hpp
    have hap : ∀ p ∈ pre ++ post, Apart p it ∨ Apart it p := by
      intro p hpp
      rw [List.pairwise_append] at hp
      rcases List.mem_append.1 hpp with h | h
      · exact .inl (hp.2.2 p h it (by simp))
      · exact .inr ((List.pairwise_cons.1 hp.2.1).1 p h)
    have hnotin : ∀ p ∈ pre ++ post, p.i ≠ it.i := by
      intro p hpp e
      simp only [List.map_append, List.map_cons] at hnd
      rw [List.nodup_append] at hnd
      rcases List.mem_append.1 hpp with h | h
      · exact hnd.2.2 p.i (List.mem_map.2 ⟨p, h, rfl⟩) it.i (by simp) e
      · exact (List.nodup_cons.1 hnd.2.1).1 (e ▸ List.mem_map.2 ⟨p, h, rfl⟩)
    have hset : ∀ k, k < ops.size → ((listed.setIfInBounds it.i true).getD k true = false ↔ ∃ x ∈ pre ++ post, x.i = k) := by
      intro k hk
      by_cases e : k = it.i
      · subst e
        have : (listed.setIfInBounds it.i true).getD it.i true = true := by simp [hls, hjlt]
        rw [this]
        constructor
        · intro h; cases h
        · rintro ⟨x, hx, e⟩; exact absurd e (hnotin x hx)
      · rw [getD_set_ne true (Ne.symm e), hli k hk]
        constructor
        · rintro ⟨x, hx, rfl⟩
          refine ⟨x, ?_, rfl⟩
          simp only [List.mem_append, List.mem_cons] at hx ⊢
          rcases hx with h | rfl | h
          · exact .inl h
          · exact absurd rfl e
          · exact .inr h
        · rintro ⟨x, hx, rfl⟩; exact ⟨x, hsubm x hx, rfl⟩
    refine c2 Q w0 own σ u a w hf c1 (hn it hit) _ fun σ' a' w' hle hout hf' => ?_
    refine chain_any n (pre ++ post) (listed.setIfInBounds it.i true) _ u' σ' a' w' ?_ c3 hf' (fun x hx b hb1 hb2 => ?_) (hp.sublist hsub) (by simpa using hls) hset (fun x hx => hlt x (hsubm x hx))
      (hnd.sublist (hsub.map _)) (hcl.set hj) (fun pre' post' it' ls h0 h4 => hind pre' post' it' ls h0 (h4.trans hsub))
      (fun ls l h0 h1 => hne ls l h0 (h1.trans hsub)) fun σ'' a'' w'' hle' hout' hf'' => ?_
    · simp only [List.length_append, List.length_cons] at hl ⊢; omega
    · refine hout b (hn x (hsubm x hx) b hb1 hb2) ?_
      rcases hap x hx with h | h <;> rcases h with h | h <;> omega
    · refine hQ σ'' a'' w'' (hle.trans hle') (fun b hb hb' => ?_) hf''
      exact hout' b (hout b hb (hb' it hit)) fun x hx => hb' x (hsubm x hx)

end
end Go.Ab
