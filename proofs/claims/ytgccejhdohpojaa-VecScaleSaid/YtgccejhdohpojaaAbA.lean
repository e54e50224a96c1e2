/- A part of the proof of 'VecScale': lemmas, no statement of their own; no condition. -/
import Derived.WalkKit
import Derived.Orders
namespace Go.Ab

/-- Abstract values: a value without addresses as it stands; addresses by the names of blocks. -/
inductive AV where
  | val (v : Value)
  | ptr (b off : Nat)
  | slice (b off len cap : Nat)
  | agg (cs : List AV)
  | tuple (vs : List AV)
  | func (f : FuncId) (first captured : List AV)
  | map (b : Nat)
  | any

mutual
def Rel (σ : Nat → Option Nat) : AV → Value → Prop
  | .val x, v => v = x
  | .ptr b off, v => ∃ r, σ b = some r ∧ v = .pointer (some ⟨r, off, none⟩)
  | .slice b off len cap, v => ∃ r, σ b = some r ∧ v = .slice (some ⟨r, off, none⟩) len cap
  | .agg cs, v => ∃ vs : List Value, v = .agg vs.toArray ∧ Rels σ cs vs
  | .tuple cs, v => ∃ vs : List Value, v = .tuple vs.toArray ∧ Rels σ cs vs
  | .func f a b, v => ∃ xs ys : List Value, v = .func (.func f) xs.toArray ys.toArray ∧ Rels σ a xs ∧ Rels σ b ys
  | .map b, v => ∃ r, σ b = some r ∧ v = .map (some r)
  | .any, _ => True
def Rels (σ : Nat → Option Nat) : List AV → List Value → Prop
  | [], vs => vs = []
  | a :: as, vs => ∃ x xs, vs = x :: xs ∧ Rel σ a x ∧ Rels σ as xs
end

def Le (σ σ' : Nat → Option Nat) : Prop := ∀ b r, σ b = some r → σ' b = some r
theorem Le.refl (σ : Nat → Option Nat) : Le σ σ := fun _ _ h => h
theorem Le.trans {a b c : Nat → Option Nat} (h : Le a b) (k : Le b c) : Le a c := fun _ _ x => k _ _ (h _ _ x)

mutual
theorem Rel.mono {σ σ' : Nat → Option Nat} (h : Le σ σ') : ∀ (a : AV) (v : Value), Rel σ a v → Rel σ' a v
  | .val _, _, k => by simpa only [Rel] using k
  | .ptr _ _, _, k => by simp only [Rel] at k ⊢; obtain ⟨r, h1, h2⟩ := k; exact ⟨r, h _ _ h1, h2⟩
  | .slice _ _ _ _, _, k => by simp only [Rel] at k ⊢; obtain ⟨r, h1, h2⟩ := k; exact ⟨r, h _ _ h1, h2⟩
  | .agg cs, _, k => by simp only [Rel] at k ⊢; obtain ⟨r, h1, h2⟩ := k; exact ⟨r, h1, Rels.mono h cs _ h2⟩
  | .tuple cs, _, k => by simp only [Rel] at k ⊢; obtain ⟨r, h1, h2⟩ := k; exact ⟨r, h1, Rels.mono h cs _ h2⟩
  | .func _ a b, _, k => by simp only [Rel] at k ⊢; obtain ⟨x, y, h1, h2, h3⟩ := k; exact ⟨x, y, h1, Rels.mono h a _ h2, Rels.mono h b _ h3⟩
  | .map _, _, k => by simp only [Rel] at k ⊢; obtain ⟨r, h1, h2⟩ := k; exact ⟨r, h _ _ h1, h2⟩
  | .any, _, _ => by simp only [Rel]
theorem Rels.mono {σ σ' : Nat → Option Nat} (h : Le σ σ') : ∀ (a : List AV) (v : List Value), Rels σ a v → Rels σ' a v
  | [], _, k => by simpa only [Rels] using k
  | a :: as, _, k => by
    simp only [Rels] at k ⊢
    obtain ⟨x, xs, h1, h2, h3⟩ := k
    exact ⟨x, xs, h1, Rel.mono h a x h2, Rels.mono h as xs h3⟩
end

theorem Rels.length {σ : Nat → Option Nat} : ∀ {as : List AV} {vs : List Value}, Rels σ as vs → as.length = vs.length
  | [], _, k => by simp only [Rels] at k; subst k; rfl
  | a :: as, _, k => by
    simp only [Rels] at k
    obtain ⟨x, xs, rfl, _, h3⟩ := k
    simp [Rels.length h3]

theorem Rels.get {σ : Nat → Option Nat} : ∀ {as : List AV} {vs : List Value} {i : Nat} {a : AV}, Rels σ as vs → as[i]? = some a → ∃ v, vs[i]? = some v ∧ Rel σ a v
  | [], _, _, _, _, h => by simp at h
  | a :: as, _, i, a', k, h => by
    simp only [Rels] at k
    obtain ⟨x, xs, rfl, h2, h3⟩ := k
    cases i with
    | zero => simp at h; subst h; exact ⟨x, rfl, h2⟩
    | succ i => simp at h ⊢; exact Rels.get h3 h

theorem Rels.append {σ : Nat → Option Nat} : ∀ {as bs : List AV} {vs ws : List Value}, Rels σ as vs → Rels σ bs ws → Rels σ (as ++ bs) (vs ++ ws)
  | [], _, _, _, k, h => by simp only [Rels] at k; subst k; exact h
  | a :: as, bs, _, ws, k, h => by
    simp only [Rels] at k
    obtain ⟨x, xs, rfl, h2, h3⟩ := k
    simp only [List.cons_append, Rels]
    exact ⟨x, xs ++ ws, rfl, h2, Rels.append h3 h⟩

theorem Rels.vals {σ : Nat → Option Nat} : ∀ (vs : List Value), Rels σ (vs.map .val) vs
  | [] => by simp [Rels]
  | v :: vs => by
    simp only [List.map_cons, Rels]
    exact ⟨v, vs, rfl, by simp [Rel], Rels.vals vs⟩

theorem Rels.set {σ : Nat → Option Nat} : ∀ {as : List AV} {vs : List Value} {i : Nat} {a : AV} {v : Value}, Rels σ as vs → Rel σ a v → Rels σ (as.set i a) (vs.set i v)
  | [], _, _, _, _, k, _ => by simp only [Rels] at k; subst k; simp [Rels]
  | a :: as, _, i, a', v', k, h => by
    simp only [Rels] at k
    obtain ⟨x, xs, rfl, h2, h3⟩ := k
    cases i with
    | zero => simp only [List.set_cons_zero, Rels]; exact ⟨v', xs, rfl, h, h3⟩
    | succ i => simp only [List.set_cons_succ, Rels]; exact ⟨x, _, rfl, h2, Rels.set h3 h⟩

theorem Rels.take {σ : Nat → Option Nat} : ∀ {as : List AV} {vs : List Value} (n : Nat), Rels σ as vs → Rels σ (as.take n) (vs.take n)
  | [], _, n, k => by simp only [Rels] at k; subst k; simp [Rels]
  | a :: as, _, n, k => by
    simp only [Rels] at k
    obtain ⟨x, xs, rfl, h2, h3⟩ := k
    cases n with
    | zero => simp [Rels]
    | succ n => simp only [List.take_succ_cons, Rels]; exact ⟨x, _, rfl, h2, Rels.take n h3⟩

theorem Rels.drop {σ : Nat → Option Nat} : ∀ {as : List AV} {vs : List Value} (n : Nat), Rels σ as vs → Rels σ (as.drop n) (vs.drop n)
  | [], _, n, k => by simp only [Rels] at k; subst k; simp [Rels]
  | a :: as, _, n, k => by
    cases n with
    | zero => simpa using k
    | succ n =>
      simp only [Rels] at k
      obtain ⟨x, xs, rfl, h2, h3⟩ := k
      simpa using Rels.drop n h3

/-- What a place holds: an abstract value, a row of cells, another object as it stands. -/
inductive Con where
  | av (a : AV)
  | row (elem : TypeId) (cells : List AV)
  | obj (o : Obj)

inductive Loc where
  | tmp (t : Nat)
  | blk (b : Nat)
  deriving DecidableEq

abbrev U := Loc → Option Con
def upd1 (u : U) (l : Loc) (c : Con) : U := fun l' => if l' = l then some c else u l'
def upd (u : U) : List (Loc × Con) → U
  | [] => u
  | (l, c) :: r => upd1 (upd u r) l c
def Sub (u' u : U) : Prop := ∀ l c, u' l = some c → u l = some c
theorem Sub.refl (u : U) : Sub u u := fun _ _ h => h
theorem Sub.trans {a b c : U} (h : Sub a b) (k : Sub b c) : Sub a c := fun _ _ x => k _ _ (h _ _ x)
theorem Sub.upd1 {u' u : U} (h : Sub u' u) (l : Loc) (c : Con) : Sub (Ab.upd1 u' l c) (Ab.upd1 u l c) := by
  intro l' c' h'
  unfold Ab.upd1 at *
  split
  · rename_i e; rw [if_pos e] at h'; exact h'
  · rename_i e; rw [if_neg e] at h'; exact h _ _ h'
theorem Sub.upd {u' u : U} (h : Sub u' u) (wr : List (Loc × Con)) : Sub (Ab.upd u' wr) (Ab.upd u wr) := by
  induction wr with
  | nil => exact h
  | cons x wr ih => exact Sub.upd1 ih x.1 x.2
theorem upd_eq (u : U) (wr : List (Loc × Con)) (l : Loc) : upd u wr l = match wr.find? (fun p => decide (p.1 = l)) with | some p => some p.2 | none => u l := by
  induction wr with
  | nil => rfl
  | cons x wr ih =>
    simp only [upd, upd1, List.find?_cons]
    by_cases e : l = x.1
    · simp [e]
    · rw [if_neg e, ih]
      have : decide (x.1 = l) = false := by simp; exact fun h => e h.symm
      simp [this]
theorem upd_append (u : U) (x y : List (Loc × Con)) : upd u (x ++ y) = upd (upd u y) x := by
  induction x with
  | nil => rfl
  | cons p x ih => simp only [List.cons_append, upd, ih]
theorem upd_none (u : U) (wr : List (Loc × Con)) (l : Loc) (h : ∀ p ∈ wr, p.1 ≠ l) : upd u wr l = u l := by
  rw [upd_eq]
  have : wr.find? (fun p => decide (p.1 = l)) = none := by simpa using h
  rw [this]
theorem upd_some (u u' : U) (wr : List (Loc × Con)) (l : Loc) (h : ∃ p ∈ wr, p.1 = l) : upd u wr l = upd u' wr l := by
  rw [upd_eq, upd_eq]
  cases hf : wr.find? (fun p => decide (p.1 = l)) with
  | some p => rfl
  | none =>
    obtain ⟨p, hp, e⟩ := h
    have := List.find?_eq_none.1 hf p hp
    simp [e] at this
theorem upd_comm (u : U) (x y : List (Loc × Con)) (h : ∀ p ∈ x, ∀ q ∈ y, p.1 ≠ q.1) : upd (upd u x) y = upd (upd u y) x := by
  funext l
  by_cases hx : ∃ p ∈ x, p.1 = l
  · have hy : ∀ q ∈ y, q.1 ≠ l := fun q hq e => by
      obtain ⟨p, hp, e1⟩ := hx
      exact h p hp q hq (e1.trans e.symm)
    rw [upd_none _ y l hy, upd_some u (upd u y) x l hx]
  · have hx' : ∀ p ∈ x, p.1 ≠ l := fun p hp e => hx ⟨p, hp, e⟩
    rw [upd_none _ x l hx']
    by_cases hy : ∃ q ∈ y, q.1 = l
    · exact upd_some _ _ y l hy
    · have hy' : ∀ q ∈ y, q.1 ≠ l := fun q hq e => hy ⟨q, hq, e⟩
      rw [upd_none _ y l hy', upd_none _ y l hy', upd_none _ x l hx']

/-- The world w, and the frame's act a, are as u tells, by σ; what was in w0 and isn't owned is as it was. -/
structure Fits (N : Nat) (w0 : World) (own : Nat → Prop) (σ : Nat → Option Nat) (u : U) (a : Act) (w : World) : Prop where
  defers : a.defers = []
  size : a.tmps.size = N
  tmp : ∀ t v, u (.tmp t) = some (.av v) → ∃ x, a.tmps[t]? = some x ∧ Rel σ v x
  row : ∀ b e cs, u (.blk b) = some (.row e cs) → ∃ r vs, σ b = some r ∧ w.heap[r]? = some (.cells (List.toArray vs) e (0, 0)) ∧ Rels σ cs vs
  obj : ∀ b o, u (.blk b) = some (.obj o) → ∃ r, σ b = some r ∧ w.heap[r]? = some o
  inj : ∀ b b' r, σ b = some r → σ b' = some r → b = b'
  bound : ∀ b r, σ b = some r → r < w.heap.size
  ownsR : ∀ b e cs r, u (.blk b) = some (.row e cs) → σ b = some r → own r ∨ w0.heap.size ≤ r
  ownsO : ∀ b o r, u (.blk b) = some (.obj o) → σ b = some r → own r ∨ w0.heap.size ≤ r
  os : w.os = w0.os
  tape : w.tape = w0.tape
  output : w.output = w0.output
  grown : w0.heap.size ≤ w.heap.size
  frame : ∀ k, k < w0.heap.size → ¬ own k → w.heap[k]? = w0.heap[k]?

theorem Fits.sub {N : Nat} {w0 : World} {own : Nat → Prop} {σ : Nat → Option Nat} {u u' : U} {a : Act} {w : World} (h : Fits N w0 own σ u a w) (hs : Sub u' u) : Fits N w0 own σ u' a w :=
  { h with tmp := fun t v k => h.tmp t v (hs _ _ k), row := fun b e cs k => h.row b e cs (hs _ _ k), obj := fun b o k => h.obj b o (hs _ _ k), ownsR := fun b e cs r k => h.ownsR b e cs r (hs _ _ k), ownsO := fun b o r k => h.ownsO b o r (hs _ _ k) }

theorem Fits.drew {N : Nat} {w0 : World} {own : Nat → Prop} {σ : Nat → Option Nat} {u : U} {a : Act} {w : World} (h : Fits N w0 own σ u a w) : Fits N w0 own σ u a { w with drawn := w.drawn + 1 } :=
  ⟨h.defers, h.size, h.tmp, h.row, h.obj, h.inj, h.bound, h.ownsR, h.ownsO, h.os, h.tape, h.output, h.grown, h.frame⟩

/-- A temporary is written. -/
theorem Fits.put {N : Nat} {w0 : World} {own : Nat → Prop} {σ : Nat → Option Nat} {u : U} {a : Act} {w : World} (h : Fits N w0 own σ u a w) {d : Nat} (hd : d < N) {v : AV} {x : Value} (hv : Rel σ v x) :
    Fits N w0 own σ (upd1 u (.tmp d) (.av v)) (a.put (some d) x) w := by
  refine ⟨h.defers, by simp [Act.put, h.size], fun t v' k => ?_, fun b e cs k => h.row b e cs (by simpa [upd1] using k), fun b o k => h.obj b o (by simpa [upd1] using k), h.inj, h.bound, fun b e cs r k => h.ownsR b e cs r (by simpa [upd1] using k), fun b o r k => h.ownsO b o r (by simpa [upd1] using k), h.os, h.tape, h.output, h.grown, h.frame⟩
  by_cases e : t = d
  · subst e
    simp [upd1] at k
    subst k
    refine ⟨x, ?_, hv⟩
    simp [Act.put, h.size, hd]
  · simp [upd1, e] at k
    obtain ⟨y, hy, hr⟩ := h.tmp t v' k
    refine ⟨y, ?_, hr⟩
    simp only [Act.put]
    rw [Array.getElem?_setIfInBounds_ne (Ne.symm e)]
    exact hy

/-- A new block. -/
theorem Fits.alloc {N : Nat} {w0 : World} {own : Nat → Prop} {σ : Nat → Option Nat} {u : U} {a : Act} {w : World} (h : Fits N w0 own σ u a w) {b : Nat} (hb : σ b = none) {e : TypeId} {cs : List AV} {vs : List Value} (hv : Rels σ cs vs) :
    Fits N w0 own (fun x => if x = b then some w.heap.size else σ x) (upd1 u (.blk b) (.row e cs)) a (w.alloc (.cells (List.toArray vs) e)) ∧ Le σ (fun x => if x = b then some w.heap.size else σ x) := by
  have hle : Le σ (fun x => if x = b then some w.heap.size else σ x) := by
    intro x r hx
    show (if x = b then _ else _) = _
    rw [if_neg (fun e => by rw [e, hb] at hx; cases hx)]
    exact hx
  refine ⟨⟨h.defers, h.size, fun t v' k => ?_, fun b' e' cs' k => ?_, fun b' o k => ?_, fun x y r hx hy => ?_, fun x r hx => ?_, fun b' e' cs' r k hx => ?_, fun b' o r k hx => ?_, h.os, h.tape, h.output, by simp; have := h.grown; omega, fun k hk hn => ?_⟩, hle⟩
  · obtain ⟨y, hy, hr⟩ := h.tmp t v' (by simpa [upd1] using k)
    exact ⟨y, hy, Rel.mono hle _ _ hr⟩
  · by_cases e1 : b' = b
    · subst e1
      simp [upd1] at k
      obtain ⟨rfl, rfl⟩ := k
      exact ⟨w.heap.size, vs, by simp, heap_alloc_new w _, Rels.mono hle _ _ hv⟩
    · obtain ⟨r, vs', h1, h2, h3⟩ := h.row b' e' cs' (by simpa [upd1, e1] using k)
      refine ⟨r, vs', hle _ _ h1, ?_, Rels.mono hle _ _ h3⟩
      rw [heap_alloc_old w _ (h.bound _ _ h1)]
      exact h2
  · by_cases e1 : b' = b
    · subst e1
      simp [upd1] at k
    · obtain ⟨r, h1, h2⟩ := h.obj b' o (by simpa [upd1, e1] using k)
      refine ⟨r, hle _ _ h1, ?_⟩
      rw [heap_alloc_old w _ (h.bound _ _ h1)]
      exact h2
  · skip
    split at hx <;> split at hy
    · simp_all
    · simp at hx; have := h.bound _ _ hy; omega
    · simp at hy; have := h.bound _ _ hx; omega
    · exact h.inj _ _ _ hx hy
  · skip
    split at hx
    · simp at hx; subst hx; simp
    · have := h.bound _ _ hx; simp; omega
  · by_cases e1 : b' = b
    · subst e1
      simp at hx; subst hx; exact .inr h.grown
    · rw [if_neg e1] at hx
      exact h.ownsR b' e' cs' r (by simpa [upd1, e1] using k) hx
  · by_cases e1 : b' = b
    · subst e1
      simp at hx; subst hx; exact .inr h.grown
    · rw [if_neg e1] at hx
      exact h.ownsO b' o r (by simpa [upd1, e1] using k) hx
  · rw [heap_alloc_old w _ (by have := h.grown; omega)]
    exact h.frame k hk hn

/-- A named row is written. -/
theorem Fits.setRow {N : Nat} {w0 : World} {own : Nat → Prop} {σ : Nat → Option Nat} {u : U} {a : Act} {w : World} (h : Fits N w0 own σ u a w) {b : Nat} {r : Nat} (hb : σ b = some r) {e : TypeId} {cs cs0 : List AV} {vs vs0 : List Value} (hu : u (.blk b) = some (.row e cs0))
    (hr : w.heap[r]? = some (.cells (List.toArray vs0) e (0, 0))) (hv : Rels σ cs vs) :
    Fits N w0 own σ (upd1 u (.blk b) (.row e cs)) a (w.setRow r (List.toArray vs)) := by
  refine ⟨h.defers, h.size, fun t v' k => h.tmp t v' (by simpa [upd1] using k), fun b' e' cs' k => ?_, fun b' o k => ?_, h.inj, fun x y hx => by simpa using h.bound x y hx, fun b' e' cs' r' k hx => ?_, fun b' o r' k hx => ?_, by simpa using h.os, by simpa using h.tape, by simpa using h.output, by simpa using h.grown, fun k hk hn => ?_⟩
  · by_cases e1 : b' = b
    · subst e1
      simp [upd1] at k
      obtain ⟨rfl, rfl⟩ := k
      exact ⟨r, vs, hb, setRow_heap w r _ _ _ _ hr, hv⟩
    · obtain ⟨r', vs', h1, h2, h3⟩ := h.row b' e' cs' (by simpa [upd1, e1] using k)
      refine ⟨r', vs', h1, ?_, h3⟩
      rw [setRow_other w r r' _ (fun e2 => e1 (h.inj _ _ _ h1 (e2 ▸ hb)))]
      exact h2
  · by_cases e1 : b' = b
    · subst e1
      simp [upd1] at k
    · obtain ⟨r', h1, h2⟩ := h.obj b' o (by simpa [upd1, e1] using k)
      refine ⟨r', h1, ?_⟩
      rw [setRow_other w r r' _ (fun e2 => e1 (h.inj _ _ _ h1 (e2 ▸ hb)))]
      exact h2
  · by_cases e1 : b' = b
    · subst e1; exact h.ownsR _ _ _ _ hu hx
    · exact h.ownsR b' e' cs' r' (by simpa [upd1, e1] using k) hx
  · by_cases e1 : b' = b
    · subst e1; exact h.ownsR _ _ _ _ hu hx
    · exact h.ownsO b' o r' (by simpa [upd1, e1] using k) hx
  · by_cases e1 : k = r
    · subst e1
      rcases h.ownsR _ _ _ _ hu hb with h1 | h1
      · exact absurd h1 hn
      · omega
    · rw [setRow_other w r k _ e1]
      exact h.frame k hk hn

/-- A new block of another kind. -/
theorem Fits.allocO {N : Nat} {w0 : World} {own : Nat → Prop} {σ : Nat → Option Nat} {u : U} {a : Act} {w : World} (h : Fits N w0 own σ u a w) {b : Nat} (hb : σ b = none) (ob : Obj) :
    Fits N w0 own (fun x => if x = b then some w.heap.size else σ x) (upd1 u (.blk b) (.obj ob)) a (w.alloc ob) ∧ Le σ (fun x => if x = b then some w.heap.size else σ x) := by
  have hle : Le σ (fun x => if x = b then some w.heap.size else σ x) := by
    intro x r hx
    show (if x = b then _ else _) = _
    rw [if_neg (fun e => by rw [e, hb] at hx; cases hx)]
    exact hx
  refine ⟨⟨h.defers, h.size, fun t v' k => ?_, fun b' e' cs' k => ?_, fun b' o k => ?_, fun x y r hx hy => ?_, fun x r hx => ?_, fun b' e' cs' r k hx => ?_, fun b' o r k hx => ?_, h.os, h.tape, h.output, by simp; have := h.grown; omega, fun k hk hn => ?_⟩, hle⟩
  · obtain ⟨y, hy, hr⟩ := h.tmp t v' (by simpa [upd1] using k)
    exact ⟨y, hy, Rel.mono hle _ _ hr⟩
  · by_cases e1 : b' = b
    · subst e1
      simp [upd1] at k
    · obtain ⟨r, vs', h1, h2, h3⟩ := h.row b' e' cs' (by simpa [upd1, e1] using k)
      refine ⟨r, vs', hle _ _ h1, ?_, Rels.mono hle _ _ h3⟩
      rw [heap_alloc_old w _ (h.bound _ _ h1)]
      exact h2
  · by_cases e1 : b' = b
    · subst e1
      simp [upd1] at k
      subst k
      exact ⟨w.heap.size, by simp, heap_alloc_new w _⟩
    · obtain ⟨r, h1, h2⟩ := h.obj b' o (by simpa [upd1, e1] using k)
      refine ⟨r, hle _ _ h1, ?_⟩
      rw [heap_alloc_old w _ (h.bound _ _ h1)]
      exact h2
  · skip
    split at hx <;> split at hy
    · simp_all
    · simp at hx; have := h.bound _ _ hy; omega
    · simp at hy; have := h.bound _ _ hx; omega
    · exact h.inj _ _ _ hx hy
  · skip
    split at hx
    · simp at hx; subst hx; simp
    · have := h.bound _ _ hx; simp; omega
  · by_cases e1 : b' = b
    · subst e1
      simp at hx; subst hx; exact .inr h.grown
    · rw [if_neg e1] at hx
      exact h.ownsR b' e' cs' r (by simpa [upd1, e1] using k) hx
  · by_cases e1 : b' = b
    · subst e1
      simp at hx; subst hx; exact .inr h.grown
    · rw [if_neg e1] at hx
      exact h.ownsO b' o r (by simpa [upd1, e1] using k) hx
  · rw [heap_alloc_old w _ (by have := h.grown; omega)]
    exact h.frame k hk hn

/-- A named block of another kind is written. -/
theorem Fits.setO {N : Nat} {w0 : World} {own : Nat → Prop} {σ : Nat → Option Nat} {u : U} {a : Act} {w : World} (h : Fits N w0 own σ u a w) {b : Nat} {r : Nat} (hb : σ b = some r) {ob ob0 : Obj} (hu : u (.blk b) = some (.obj ob0)) :
    Fits N w0 own σ (upd1 u (.blk b) (.obj ob)) a { w with heap := w.heap.setIfInBounds r ob } := by
  have hlt := h.bound _ _ hb
  have other : ∀ k, k ≠ r → (w.heap.setIfInBounds r ob)[k]? = w.heap[k]? := fun k hk => by rw [Array.getElem?_setIfInBounds_ne (Ne.symm hk)]
  refine ⟨h.defers, h.size, fun t v' k => h.tmp t v' (by simpa [upd1] using k), fun b' e' cs' k => ?_, fun b' o k => ?_, h.inj, fun x y hx => by simpa using h.bound x y hx, fun b' e' cs' r' k hx => ?_, fun b' o r' k hx => ?_, h.os, h.tape, h.output, by simpa using h.grown, fun k hk hn => ?_⟩
  · by_cases e1 : b' = b
    · subst e1
      simp [upd1] at k
    · obtain ⟨r', vs', h1, h2, h3⟩ := h.row b' e' cs' (by simpa [upd1, e1] using k)
      refine ⟨r', vs', h1, ?_, h3⟩
      show (w.heap.setIfInBounds r ob)[r']? = _
      rw [other r' (fun e2 => e1 (h.inj _ _ _ h1 (e2 ▸ hb)))]
      exact h2
  · by_cases e1 : b' = b
    · subst e1
      simp [upd1] at k
      subst k
      exact ⟨r, hb, by show (w.heap.setIfInBounds r ob)[r]? = _; simp [hlt]⟩
    · obtain ⟨r', h1, h2⟩ := h.obj b' o (by simpa [upd1, e1] using k)
      refine ⟨r', h1, ?_⟩
      show (w.heap.setIfInBounds r ob)[r']? = _
      rw [other r' (fun e2 => e1 (h.inj _ _ _ h1 (e2 ▸ hb)))]
      exact h2
  · by_cases e1 : b' = b
    · subst e1; exact h.ownsO _ _ _ hu hx
    · exact h.ownsR b' e' cs' r' (by simpa [upd1, e1] using k) hx
  · by_cases e1 : b' = b
    · subst e1; exact h.ownsO _ _ _ hu hx
    · exact h.ownsO b' o r' (by simpa [upd1, e1] using k) hx
  · show (w.heap.setIfInBounds r ob)[k]? = _
    by_cases e1 : k = r
    · subst e1
      rcases h.ownsO _ _ _ hu hb with h1 | h1
      · exact absurd h1 hn
      · omega
    · rw [other k e1]
      exact h.frame k hk hn

end Go.Ab
