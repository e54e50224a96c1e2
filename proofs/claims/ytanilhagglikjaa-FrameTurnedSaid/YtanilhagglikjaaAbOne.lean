/- A part of the proofs: lemmas, no statement of their own; no condition. -/
import Derived.WalkKit
import Derived.Orders
import Derived.ChangeKeysEq
import Derived.Laws.StructEq
import Derived.Laws.BytesString
import Derived.Laws.Concat
import Derived.Laws.Externs
import Derived.KernelRfl
namespace Go.Ab

/-- Abstract values: a value without addresses as it stands; addresses by the names of blocks. -/
inductive AV where
  | val (v : Value)
  | ptr (b off : Nat)
  | slice (b off len cap : Nat)
  | agg (cs : List AV)
  | tuple (vs : List AV)
  | func (f : FuncId) (first captured : List AV)
  | map (b : Nat)
  | any

mutual
def Rel (σ : Nat → Option Nat) : AV → Value → Prop
  | .val x, v => v = x
  | .ptr b off, v => ∃ r, σ b = some r ∧ v = .pointer (some ⟨r, off, none⟩)
  | .slice b off len cap, v => ∃ r, σ b = some r ∧ v = .slice (some ⟨r, off, none⟩) len cap
  | .agg cs, v => ∃ vs : List Value, v = .agg vs.toArray ∧ Rels σ cs vs
  | .tuple cs, v => ∃ vs : List Value, v = .tuple vs.toArray ∧ Rels σ cs vs
  | .func f a b, v => ∃ xs ys : List Value, v = .func (.func f) xs.toArray ys.toArray ∧ Rels σ a xs ∧ Rels σ b ys
  | .map b, v => ∃ r, σ b = some r ∧ v = .map (some r)
  | .any, _ => True
def Rels (σ : Nat → Option Nat) : List AV → List Value → Prop
  | [], vs => vs = []
  | a :: as, vs => ∃ x xs, vs = x :: xs ∧ Rel σ a x ∧ Rels σ as xs
end

def Le (σ σ' : Nat → Option Nat) : Prop := ∀ b r, σ b = some r → σ' b = some r
theorem Le.refl (σ : Nat → Option Nat) : Le σ σ := fun _ _ h => h
theorem Le.trans {a b c : Nat → Option Nat} (h : Le a b) (k : Le b c) : Le a c := fun _ _ x => k _ _ (h _ _ x)

mutual
theorem Rel.mono {σ σ' : Nat → Option Nat} (h : Le σ σ') : ∀ (a : AV) (v : Value), Rel σ a v → Rel σ' a v
  | .val _, _, k => by simpa only [Rel] using k
  | .ptr _ _, _, k => by simp only [Rel] at k ⊢; obtain ⟨r, h1, h2⟩ := k; exact ⟨r, h _ _ h1, h2⟩
  | .slice _ _ _ _, _, k => by simp only [Rel] at k ⊢; obtain ⟨r, h1, h2⟩ := k; exact ⟨r, h _ _ h1, h2⟩
  | .agg cs, _, k => by simp only [Rel] at k ⊢; obtain ⟨r, h1, h2⟩ := k; exact ⟨r, h1, Rels.mono h cs _ h2⟩
  | .tuple cs, _, k => by simp only [Rel] at k ⊢; obtain ⟨r, h1, h2⟩ := k; exact ⟨r, h1, Rels.mono h cs _ h2⟩
  | .func _ a b, _, k => by simp only [Rel] at k ⊢; obtain ⟨x, y, h1, h2, h3⟩ := k; exact ⟨x, y, h1, Rels.mono h a _ h2, Rels.mono h b _ h3⟩
  | .map _, _, k => by simp only [Rel] at k ⊢; obtain ⟨r, h1, h2⟩ := k; exact ⟨r, h _ _ h1, h2⟩
  | .any, _, _ => by simp only [Rel]
theorem Rels.mono {σ σ' : Nat → Option Nat} (h : Le σ σ') : ∀ (a : List AV) (v : List Value), Rels σ a v → Rels σ' a v
  | [], _, k => by simpa only [Rels] using k
  | a :: as, _, k => by
    simp only [Rels] at k ⊢
    obtain ⟨x, xs, h1, h2, h3⟩ := k
    exact ⟨x, xs, h1, Rel.mono h a x h2, Rels.mono h as xs h3⟩
end

theorem Rels.length {σ : Nat → Option Nat} : ∀ {as : List AV} {vs : List Value}, Rels σ as vs → as.length = vs.length
  | [], _, k => by simp only [Rels] at k; subst k; rfl
  | a :: as, _, k => by
    simp only [Rels] at k
    obtain ⟨x, xs, rfl, _, h3⟩ := k
    simp [Rels.length h3]

theorem Rels.get {σ : Nat → Option Nat} : ∀ {as : List AV} {vs : List Value} {i : Nat} {a : AV}, Rels σ as vs → as[i]? = some a → ∃ v, vs[i]? = some v ∧ Rel σ a v
  | [], _, _, _, _, h => by simp at h
  | a :: as, _, i, a', k, h => by
    simp only [Rels] at k
    obtain ⟨x, xs, rfl, h2, h3⟩ := k
    cases i with
    | zero => simp at h; subst h; exact ⟨x, rfl, h2⟩
    | succ i => simp at h ⊢; exact Rels.get h3 h

theorem Rels.append {σ : Nat → Option Nat} : ∀ {as bs : List AV} {vs ws : List Value}, Rels σ as vs → Rels σ bs ws → Rels σ (as ++ bs) (vs ++ ws)
  | [], _, _, _, k, h => by simp only [Rels] at k; subst k; exact h
  | a :: as, bs, _, ws, k, h => by
    simp only [Rels] at k
    obtain ⟨x, xs, rfl, h2, h3⟩ := k
    simp only [List.cons_append, Rels]
    exact ⟨x, xs ++ ws, rfl, h2, Rels.append h3 h⟩

theorem Rels.vals {σ : Nat → Option Nat} : ∀ (vs : List Value), Rels σ (vs.map .val) vs
  | [] => by simp [Rels]
  | v :: vs => by
    simp only [List.map_cons, Rels]
    exact ⟨v, vs, rfl, by simp [Rel], Rels.vals vs⟩

theorem Rels.set {σ : Nat → Option Nat} : ∀ {as : List AV} {vs : List Value} {i : Nat} {a : AV} {v : Value}, Rels σ as vs → Rel σ a v → Rels σ (as.set i a) (vs.set i v)
  | [], _, _, _, _, k, _ => by simp only [Rels] at k; subst k; simp [Rels]
  | a :: as, _, i, a', v', k, h => by
    simp only [Rels] at k
    obtain ⟨x, xs, rfl, h2, h3⟩ := k
    cases i with
    | zero => simp only [List.set_cons_zero, Rels]; exact ⟨v', xs, rfl, h, h3⟩
    | succ i => simp only [List.set_cons_succ, Rels]; exact ⟨x, _, rfl, h2, Rels.set h3 h⟩

theorem Rels.take {σ : Nat → Option Nat} : ∀ {as : List AV} {vs : List Value} (n : Nat), Rels σ as vs → Rels σ (as.take n) (vs.take n)
  | [], _, n, k => by simp only [Rels] at k; subst k; simp [Rels]
  | a :: as, _, n, k => by
    simp only [Rels] at k
    obtain ⟨x, xs, rfl, h2, h3⟩ := k
    cases n with
    | zero => simp [Rels]
    | succ n => simp only [List.take_succ_cons, Rels]; exact ⟨x, _, rfl, h2, Rels.take n h3⟩

theorem Rels.drop {σ : Nat → Option Nat} : ∀ {as : List AV} {vs : List Value} (n : Nat), Rels σ as vs → Rels σ (as.drop n) (vs.drop n)
  | [], _, n, k => by simp only [Rels] at k; subst k; simp [Rels]
  | a :: as, _, n, k => by
    cases n with
    | zero => simpa using k
    | succ n =>
      simp only [Rels] at k
      obtain ⟨x, xs, rfl, h2, h3⟩ := k
      simpa using Rels.drop n h3

/-- What a place holds: an abstract value, a row of cells, another object as it stands. -/
inductive Con where
  | av (a : AV)
  | row (elem : TypeId) (cells : List AV)
  | obj (o : Obj)

inductive Loc where
  | tmp (t : Nat)
  | blk (b : Nat)
  deriving DecidableEq

abbrev U := Loc → Option Con
def upd1 (u : U) (l : Loc) (c : Con) : U := fun l' => if l' = l then some c else u l'
def upd (u : U) : List (Loc × Con) → U
  | [] => u
  | (l, c) :: r => upd1 (upd u r) l c
def Sub (u' u : U) : Prop := ∀ l c, u' l = some c → u l = some c
theorem Sub.refl (u : U) : Sub u u := fun _ _ h => h
theorem Sub.trans {a b c : U} (h : Sub a b) (k : Sub b c) : Sub a c := fun _ _ x => k _ _ (h _ _ x)
theorem Sub.upd1 {u' u : U} (h : Sub u' u) (l : Loc) (c : Con) : Sub (Ab.upd1 u' l c) (Ab.upd1 u l c) := by
  intro l' c' h'
  unfold Ab.upd1 at *
  split
  · rename_i e; rw [if_pos e] at h'; exact h'
  · rename_i e; rw [if_neg e] at h'; exact h _ _ h'
theorem Sub.upd {u' u : U} (h : Sub u' u) (wr : List (Loc × Con)) : Sub (Ab.upd u' wr) (Ab.upd u wr) := by
  induction wr with
  | nil => exact h
  | cons x wr ih => exact Sub.upd1 ih x.1 x.2
theorem upd_eq (u : U) (wr : List (Loc × Con)) (l : Loc) : upd u wr l = match wr.find? (fun p => decide (p.1 = l)) with | some p => some p.2 | none => u l := by
  induction wr with
  | nil => rfl
  | cons x wr ih =>
    simp only [upd, upd1, List.find?_cons]
    by_cases e : l = x.1
    · simp [e]
    · rw [if_neg e, ih]
      have : decide (x.1 = l) = false := by simp; exact fun h => e h.symm
      simp [this]
theorem upd_append (u : U) (x y : List (Loc × Con)) : upd u (x ++ y) = upd (upd u y) x := by
  induction x with
  | nil => rfl
  | cons p x ih => simp only [List.cons_append, upd, ih]
theorem upd_none (u : U) (wr : List (Loc × Con)) (l : Loc) (h : ∀ p ∈ wr, p.1 ≠ l) : upd u wr l = u l := by
  rw [upd_eq]
  have : wr.find? (fun p => decide (p.1 = l)) = none := by simpa using h
  rw [this]
theorem upd_some (u u' : U) (wr : List (Loc × Con)) (l : Loc) (h : ∃ p ∈ wr, p.1 = l) : upd u wr l = upd u' wr l := by
  rw [upd_eq, upd_eq]
  cases hf : wr.find? (fun p => decide (p.1 = l)) with
  | some p => rfl
  | none =>
    obtain ⟨p, hp, e⟩ := h
    have := List.find?_eq_none.1 hf p hp
    simp [e] at this
theorem upd_comm (u : U) (x y : List (Loc × Con)) (h : ∀ p ∈ x, ∀ q ∈ y, p.1 ≠ q.1) : upd (upd u x) y = upd (upd u y) x := by
  funext l
  by_cases hx : ∃ p ∈ x, p.1 = l
  · have hy : ∀ q ∈ y, q.1 ≠ l := fun q hq e => by
      obtain ⟨p, hp, e1⟩ := hx
      exact h p hp q hq (e1.trans e.symm)
    rw [upd_none _ y l hy, upd_some u (upd u y) x l hx]
  · have hx' : ∀ p ∈ x, p.1 ≠ l := fun p hp e => hx ⟨p, hp, e⟩
    rw [upd_none _ x l hx']
    by_cases hy : ∃ q ∈ y, q.1 = l
    · exact upd_some _ _ y l hy
    · have hy' : ∀ q ∈ y, q.1 ≠ l := fun q hq e => hy ⟨q, hq, e⟩
      rw [upd_none _ y l hy', upd_none _ y l hy', upd_none _ x l hx']

/-- An entry's key and value. -/
def kvOf (e : MapEntry) : Value × Value := (e.key, e.val)
def pairsOf : List Value → List (Value × Value)
  | k :: v :: r => (k, v) :: pairsOf r
  | _ => []
/-- What an object that is told stands for: itself; a map in whatever order (it is told as a channel whose buffer holds keys and values by turns). -/
def Den : Obj → Obj → Prop
  | .chan _ buf _ _ _ _, o => ∃ es c, o = .map es c ∧ ∀ p, p ∈ es.toList.map kvOf ↔ p ∈ pairsOf buf.toList
  | ob, o => o = ob

/-- The world w, and the frame's act a, are as u tells, by σ; what was in w0 and isn't owned is as it was. -/
structure Fits (N : Nat) (w0 : World) (own : Nat → Prop) (σ : Nat → Option Nat) (u : U) (a : Act) (w : World) : Prop where
  defers : a.defers = []
  size : a.tmps.size = N
  tmp : ∀ t v, u (.tmp t) = some (.av v) → ∃ x, a.tmps[t]? = some x ∧ Rel σ v x
  row : ∀ b e cs, u (.blk b) = some (.row e cs) → ∃ r vs, σ b = some r ∧ w.heap[r]? = some (.cells (List.toArray vs) e (0, 0)) ∧ Rels σ cs vs
  obj : ∀ b o, u (.blk b) = some (.obj o) → ∃ r o', σ b = some r ∧ w.heap[r]? = some o' ∧ Den o o'
  inj : ∀ b b' r, σ b = some r → σ b' = some r → b = b'
  bound : ∀ b r, σ b = some r → r < w.heap.size
  ownsR : ∀ b e cs r, u (.blk b) = some (.row e cs) → σ b = some r → own r ∨ w0.heap.size ≤ r
  ownsO : ∀ b o r, u (.blk b) = some (.obj o) → σ b = some r → own r ∨ w0.heap.size ≤ r
  os : w.os = w0.os
  tape : w.tape = w0.tape
  output : w.output = w0.output
  grown : w0.heap.size ≤ w.heap.size
  frame : ∀ k, k < w0.heap.size → ¬ own k → w.heap[k]? = w0.heap[k]?

theorem Fits.sub {N : Nat} {w0 : World} {own : Nat → Prop} {σ : Nat → Option Nat} {u u' : U} {a : Act} {w : World} (h : Fits N w0 own σ u a w) (hs : Sub u' u) : Fits N w0 own σ u' a w :=
  { h with tmp := fun t v k => h.tmp t v (hs _ _ k), row := fun b e cs k => h.row b e cs (hs _ _ k), obj := fun b o k => h.obj b o (hs _ _ k), ownsR := fun b e cs r k => h.ownsR b e cs r (hs _ _ k), ownsO := fun b o r k => h.ownsO b o r (hs _ _ k) }

theorem Fits.drew {N : Nat} {w0 : World} {own : Nat → Prop} {σ : Nat → Option Nat} {u : U} {a : Act} {w : World} (h : Fits N w0 own σ u a w) : Fits N w0 own σ u a { w with drawn := w.drawn + 1 } :=
  ⟨h.defers, h.size, h.tmp, h.row, h.obj, h.inj, h.bound, h.ownsR, h.ownsO, h.os, h.tape, h.output, h.grown, h.frame⟩

/-- A temporary is written. -/
theorem Fits.put {N : Nat} {w0 : World} {own : Nat → Prop} {σ : Nat → Option Nat} {u : U} {a : Act} {w : World} (h : Fits N w0 own σ u a w) {d : Nat} (hd : d < N) {v : AV} {x : Value} (hv : Rel σ v x) :
    Fits N w0 own σ (upd1 u (.tmp d) (.av v)) (a.put (some d) x) w := by
  refine ⟨h.defers, by simp [Act.put, h.size], fun t v' k => ?_, fun b e cs k => h.row b e cs (by simpa [upd1] using k), fun b o k => h.obj b o (by simpa [upd1] using k), h.inj, h.bound, fun b e cs r k => h.ownsR b e cs r (by simpa [upd1] using k), fun b o r k => h.ownsO b o r (by simpa [upd1] using k), h.os, h.tape, h.output, h.grown, h.frame⟩
  by_cases e : t = d
  · subst e
    simp [upd1] at k
    subst k
    refine ⟨x, ?_, hv⟩
    simp [Act.put, h.size, hd]
  · simp [upd1, e] at k
    obtain ⟨y, hy, hr⟩ := h.tmp t v' k
    refine ⟨y, ?_, hr⟩
    simp only [Act.put]
    rw [Array.getElem?_setIfInBounds_ne (Ne.symm e)]
    exact hy

/-- A new block. -/
theorem Fits.alloc {N : Nat} {w0 : World} {own : Nat → Prop} {σ : Nat → Option Nat} {u : U} {a : Act} {w : World} (h : Fits N w0 own σ u a w) {b : Nat} (hb : σ b = none) {e : TypeId} {cs : List AV} {vs : List Value} (hv : Rels σ cs vs) :
    Fits N w0 own (fun x => if x = b then some w.heap.size else σ x) (upd1 u (.blk b) (.row e cs)) a (w.alloc (.cells (List.toArray vs) e)) ∧ Le σ (fun x => if x = b then some w.heap.size else σ x) := by
  have hle : Le σ (fun x => if x = b then some w.heap.size else σ x) := by
    intro x r hx
    show (if x = b then _ else _) = _
    rw [if_neg (fun e => by rw [e, hb] at hx; cases hx)]
    exact hx
  refine ⟨⟨h.defers, h.size, fun t v' k => ?_, fun b' e' cs' k => ?_, fun b' o k => ?_, fun x y r hx hy => ?_, fun x r hx => ?_, fun b' e' cs' r k hx => ?_, fun b' o r k hx => ?_, h.os, h.tape, h.output, by simp; have := h.grown; omega, fun k hk hn => ?_⟩, hle⟩
  · obtain ⟨y, hy, hr⟩ := h.tmp t v' (by simpa [upd1] using k)
    exact ⟨y, hy, Rel.mono hle _ _ hr⟩
  · by_cases e1 : b' = b
    · subst e1
      simp [upd1] at k
      obtain ⟨rfl, rfl⟩ := k
      exact ⟨w.heap.size, vs, by simp, heap_alloc_new w _, Rels.mono hle _ _ hv⟩
    · obtain ⟨r, vs', h1, h2, h3⟩ := h.row b' e' cs' (by simpa [upd1, e1] using k)
      refine ⟨r, vs', hle _ _ h1, ?_, Rels.mono hle _ _ h3⟩
      rw [heap_alloc_old w _ (h.bound _ _ h1)]
      exact h2
  · by_cases e1 : b' = b
    · subst e1
      simp [upd1] at k
    · obtain ⟨r, o', h1, h2, h3⟩ := h.obj b' o (by simpa [upd1, e1] using k)
      refine ⟨r, o', hle _ _ h1, ?_, h3⟩
      rw [heap_alloc_old w _ (h.bound _ _ h1)]
      exact h2
  · skip
    split at hx <;> split at hy
    · simp_all
    · simp at hx; have := h.bound _ _ hy; omega
    · simp at hy; have := h.bound _ _ hx; omega
    · exact h.inj _ _ _ hx hy
  · skip
    split at hx
    · simp at hx; subst hx; simp
    · have := h.bound _ _ hx; simp; omega
  · by_cases e1 : b' = b
    · subst e1
      simp at hx; subst hx; exact .inr h.grown
    · rw [if_neg e1] at hx
      exact h.ownsR b' e' cs' r (by simpa [upd1, e1] using k) hx
  · by_cases e1 : b' = b
    · subst e1
      simp at hx; subst hx; exact .inr h.grown
    · rw [if_neg e1] at hx
      exact h.ownsO b' o r (by simpa [upd1, e1] using k) hx
  · rw [heap_alloc_old w _ (by have := h.grown; omega)]
    exact h.frame k hk hn

/-- A named row is written. -/
theorem Fits.setRow {N : Nat} {w0 : World} {own : Nat → Prop} {σ : Nat → Option Nat} {u : U} {a : Act} {w : World} (h : Fits N w0 own σ u a w) {b : Nat} {r : Nat} (hb : σ b = some r) {e : TypeId} {cs cs0 : List AV} {vs vs0 : List Value} (hu : u (.blk b) = some (.row e cs0))
    (hr : w.heap[r]? = some (.cells (List.toArray vs0) e (0, 0))) (hv : Rels σ cs vs) :
    Fits N w0 own σ (upd1 u (.blk b) (.row e cs)) a (w.setRow r (List.toArray vs)) := by
  refine ⟨h.defers, h.size, fun t v' k => h.tmp t v' (by simpa [upd1] using k), fun b' e' cs' k => ?_, fun b' o k => ?_, h.inj, fun x y hx => by simpa using h.bound x y hx, fun b' e' cs' r' k hx => ?_, fun b' o r' k hx => ?_, by simpa using h.os, by simpa using h.tape, by simpa using h.output, by simpa using h.grown, fun k hk hn => ?_⟩
  · by_cases e1 : b' = b
    · subst e1
      simp [upd1] at k
      obtain ⟨rfl, rfl⟩ := k
      exact ⟨r, vs, hb, setRow_heap w r _ _ _ _ hr, hv⟩
    · obtain ⟨r', vs', h1, h2, h3⟩ := h.row b' e' cs' (by simpa [upd1, e1] using k)
      refine ⟨r', vs', h1, ?_, h3⟩
      rw [setRow_other w r r' _ (fun e2 => e1 (h.inj _ _ _ h1 (e2 ▸ hb)))]
      exact h2
  · by_cases e1 : b' = b
    · subst e1
      simp [upd1] at k
    · obtain ⟨r', o', h1, h2, h3⟩ := h.obj b' o (by simpa [upd1, e1] using k)
      refine ⟨r', o', h1, ?_, h3⟩
      rw [setRow_other w r r' _ (fun e2 => e1 (h.inj _ _ _ h1 (e2 ▸ hb)))]
      exact h2
  · by_cases e1 : b' = b
    · subst e1; exact h.ownsR _ _ _ _ hu hx
    · exact h.ownsR b' e' cs' r' (by simpa [upd1, e1] using k) hx
  · by_cases e1 : b' = b
    · subst e1; exact h.ownsR _ _ _ _ hu hx
    · exact h.ownsO b' o r' (by simpa [upd1, e1] using k) hx
  · by_cases e1 : k = r
    · subst e1
      rcases h.ownsR _ _ _ _ hu hb with h1 | h1
      · exact absurd h1 hn
      · omega
    · rw [setRow_other w r k _ e1]
      exact h.frame k hk hn

/-- A new block of another kind. -/
theorem Fits.allocO {N : Nat} {w0 : World} {own : Nat → Prop} {σ : Nat → Option Nat} {u : U} {a : Act} {w : World} (h : Fits N w0 own σ u a w) {b : Nat} (hb : σ b = none) (ob : Obj) (hd : Den ob ob) :
    Fits N w0 own (fun x => if x = b then some w.heap.size else σ x) (upd1 u (.blk b) (.obj ob)) a (w.alloc ob) ∧ Le σ (fun x => if x = b then some w.heap.size else σ x) := by
  have hle : Le σ (fun x => if x = b then some w.heap.size else σ x) := by
    intro x r hx
    show (if x = b then _ else _) = _
    rw [if_neg (fun e => by rw [e, hb] at hx; cases hx)]
    exact hx
  refine ⟨⟨h.defers, h.size, fun t v' k => ?_, fun b' e' cs' k => ?_, fun b' o k => ?_, fun x y r hx hy => ?_, fun x r hx => ?_, fun b' e' cs' r k hx => ?_, fun b' o r k hx => ?_, h.os, h.tape, h.output, by simp; have := h.grown; omega, fun k hk hn => ?_⟩, hle⟩
  · obtain ⟨y, hy, hr⟩ := h.tmp t v' (by simpa [upd1] using k)
    exact ⟨y, hy, Rel.mono hle _ _ hr⟩
  · by_cases e1 : b' = b
    · subst e1
      simp [upd1] at k
    · obtain ⟨r, vs', h1, h2, h3⟩ := h.row b' e' cs' (by simpa [upd1, e1] using k)
      refine ⟨r, vs', hle _ _ h1, ?_, Rels.mono hle _ _ h3⟩
      rw [heap_alloc_old w _ (h.bound _ _ h1)]
      exact h2
  · by_cases e1 : b' = b
    · subst e1
      simp [upd1] at k
      subst k
      exact ⟨w.heap.size, _, by simp, heap_alloc_new w _, hd⟩
    · obtain ⟨r, o', h1, h2, h3⟩ := h.obj b' o (by simpa [upd1, e1] using k)
      refine ⟨r, o', hle _ _ h1, ?_, h3⟩
      rw [heap_alloc_old w _ (h.bound _ _ h1)]
      exact h2
  · skip
    split at hx <;> split at hy
    · simp_all
    · simp at hx; have := h.bound _ _ hy; omega
    · simp at hy; have := h.bound _ _ hx; omega
    · exact h.inj _ _ _ hx hy
  · skip
    split at hx
    · simp at hx; subst hx; simp
    · have := h.bound _ _ hx; simp; omega
  · by_cases e1 : b' = b
    · subst e1
      simp at hx; subst hx; exact .inr h.grown
    · rw [if_neg e1] at hx
      exact h.ownsR b' e' cs' r (by simpa [upd1, e1] using k) hx
  · by_cases e1 : b' = b
    · subst e1
      simp at hx; subst hx; exact .inr h.grown
    · rw [if_neg e1] at hx
      exact h.ownsO b' o r (by simpa [upd1, e1] using k) hx
  · rw [heap_alloc_old w _ (by have := h.grown; omega)]
    exact h.frame k hk hn

/-- A named block of another kind is written. -/
theorem Fits.setO {N : Nat} {w0 : World} {own : Nat → Prop} {σ : Nat → Option Nat} {u : U} {a : Act} {w : World} (h : Fits N w0 own σ u a w) {b : Nat} {r : Nat} (hb : σ b = some r) {ob ob0 : Obj} (hd : Den ob ob) (hu : u (.blk b) = some (.obj ob0)) :
    Fits N w0 own σ (upd1 u (.blk b) (.obj ob)) a { w with heap := w.heap.setIfInBounds r ob } := by
  have hlt := h.bound _ _ hb
  have other : ∀ k, k ≠ r → (w.heap.setIfInBounds r ob)[k]? = w.heap[k]? := fun k hk => by rw [Array.getElem?_setIfInBounds_ne (Ne.symm hk)]
  refine ⟨h.defers, h.size, fun t v' k => h.tmp t v' (by simpa [upd1] using k), fun b' e' cs' k => ?_, fun b' o k => ?_, h.inj, fun x y hx => by simpa using h.bound x y hx, fun b' e' cs' r' k hx => ?_, fun b' o r' k hx => ?_, h.os, h.tape, h.output, by simpa using h.grown, fun k hk hn => ?_⟩
  · by_cases e1 : b' = b
    · subst e1
      simp [upd1] at k
    · obtain ⟨r', vs', h1, h2, h3⟩ := h.row b' e' cs' (by simpa [upd1, e1] using k)
      refine ⟨r', vs', h1, ?_, h3⟩
      show (w.heap.setIfInBounds r ob)[r']? = _
      rw [other r' (fun e2 => e1 (h.inj _ _ _ h1 (e2 ▸ hb)))]
      exact h2
  · by_cases e1 : b' = b
    · subst e1
      simp [upd1] at k
      subst k
      exact ⟨r, _, hb, by show (w.heap.setIfInBounds r ob)[r]? = _; simp [hlt], hd⟩
    · obtain ⟨r', o', h1, h2, h3⟩ := h.obj b' o (by simpa [upd1, e1] using k)
      refine ⟨r', o', h1, ?_, h3⟩
      show (w.heap.setIfInBounds r ob)[r']? = _
      rw [other r' (fun e2 => e1 (h.inj _ _ _ h1 (e2 ▸ hb)))]
      exact h2
  · by_cases e1 : b' = b
    · subst e1; exact h.ownsO _ _ _ hu hx
    · exact h.ownsR b' e' cs' r' (by simpa [upd1, e1] using k) hx
  · by_cases e1 : b' = b
    · subst e1; exact h.ownsO _ _ _ hu hx
    · exact h.ownsO b' o r' (by simpa [upd1, e1] using k) hx
  · show (w.heap.setIfInBounds r ob)[k]? = _
    by_cases e1 : k = r
    · subst e1
      rcases h.ownsO _ _ _ hu hb with h1 | h1
      · exact absurd h1 hn
      · omega
    · rw [other k e1]
      exact h.frame k hk hn

end Go.Ab
namespace Go.Ab

/-! ### what an operation without memory comes to, by the model's own text -/
def evalSem {α : Type} (P : Program) : Sem α → Option α
  | .pure a => some a
  | .program k => evalSem P (k P)
  | .mark _ k => evalSem P k
  | _ => none

theorem evalSem_run {α : Type} {P : Program} {s : Sem α} {a : α} (h : evalSem P s = some a) (w : World) : s.run P w = .ok a w := by
  induction s with
  | pure x => simp [evalSem] at h; subst h; rfl
  | program k ih => exact ih P h
  | mark m k ih => exact ih h
  | _ => simp [evalSem] at h

/-! ### rows: a load and a store in the midst -/
theorem run_loadCells_row {P : Program} (w : World) (r off n : Nat) (t : TypeId) (fr : Nat × Nat) (vs xs : List Value) (hr : w.heap[r]? = some (.cells (List.toArray vs) t fr))
    (hx : (vs.drop off).take n = xs) (hn : xs.length = n) : (loadCells ⟨r, off, none⟩ n).run P w = .ok xs.toArray w := by
  subst hn
  refine run_loadCells_list (P := P) w ⟨r, off, none⟩ xs fun j v hv => ?_
  have hadd : (⟨r, off, none⟩ : Addr).add j = ⟨r, off + j, none⟩ := by unfold Addr.add; split <;> simp_all
  rw [hadd, cell_of_row w r (off + j) _ t fr hr]
  rw [← hx] at hv
  have : j < xs.length := by
    rcases Nat.lt_or_ge j xs.length with h | h
    · exact h
    · rw [List.getElem?_take, if_neg (by omega)] at hv; cases hv
  rw [List.getElem?_take, if_pos this, List.getElem?_drop] at hv
  simpa using hv

def isAggD : TypeDesc → Bool
  | .struct _ | .array _ _ => true
  | _ => false

theorem run_isAgg {P : Program} {t : TypeId} {d : TypeDesc} (h : P.underlying t = some d) (w : World) : (isAgg t).run P w = .ok (isAggD d) w := by
  unfold isAgg
  rw [Sem.run_bind, run_underlying h w]
  cases d <;> rfl

theorem run_sizeOf {P : Program} {t : TypeId} {i : TypeInfo} (h : P.info? t = some i) (w : World) : (sizeOf t).run P w = .ok i.size w := by
  simp [sizeOf, typeInfo, h]

theorem run_zeroValue {P : Program} {t : TypeId} {i : TypeInfo} {z : Value} (h : P.info? t = some i) (hz : i.zero = some z) (w : World) : (zeroValue t).run P w = .ok z w := by
  simp [zeroValue, typeInfo, h, hz]

theorem setRow_self (w : World) (g : Nat) (cur : Array Value) (t : TypeId) (fr : Nat × Nat) (hg : w.heap[g]? = some (.cells cur t fr)) : w.setRow g cur = w := by
  have hlt : g < w.heap.size := (Array.getElem?_eq_some_iff.1 hg).1
  have hv : w.heap[g] = .cells cur t fr := (Array.getElem?_eq_some_iff.1 hg).2
  unfold World.setRow
  cases w with
  | mk heap tape drawn os output =>
    congr 1
    apply Array.ext
    · simp
    · intro k h1 h2
      simp only [Array.getElem_modify]
      split
      · rename_i hk; subst hk; simp at hv; simp [hv]
      · rfl

def splice {α : Type} (cur : List α) (off : Nat) (new : List α) : List α := cur.take off ++ new ++ cur.drop (off + new.length)

theorem run_storeCells_row {P : Program} (r : Nat) (t : TypeId) : ∀ (vs : List Value) (off i : Nat) (cur : List Value) (w : World), w.heap[r]? = some (.cells (List.toArray cur) t (0, 0)) → off + i + vs.length ≤ cur.length → (∀ v ∈ vs, v.oneCell' = true) →
    (storeCells ⟨r, off, none⟩ vs i).run P w = .ok () (w.setRow r (List.toArray (splice cur (off + i) vs)))
  | [], off, i, cur, w, hg, hl, _ => by
    simp only [storeCells, splice, List.append_nil, List.length_nil, Nat.add_zero, List.take_append_drop]
    rw [setRow_self w r _ t (0, 0) hg]
    rfl
  | v :: rest, off, i, cur, w, hg, hl, h1 => by
    have hi : off + i < cur.length := by simp at hl; omega
    have hadd : (⟨r, off, none⟩ : Addr).add i = ⟨r, off + i, none⟩ := by unfold Addr.add; split <;> simp_all
    have hcell : w.cell? ⟨r, off + i, none⟩ = some cur[off + i] := by simp [World.cell?, hg, hi]
    have hfro : w.frozen? ⟨r, off + i, none⟩ = false := by simp [World.frozen?, hg]
    have hst : (store ((⟨r, off, none⟩ : Addr).add i) v).run P w = .ok () (w.setRow r (List.toArray (cur.set (off + i) v))) := by
      rw [hadd, run_store P w _ v _ (h1 v (by simp)), hcell]
      simp [hfro, setCell_eq_setRow w r (off + i) (List.toArray cur) t (0, 0) v hg]
    have ih := run_storeCells_row (P := P) r t rest off (i + 1) (cur.set (off + i) v) (w.setRow r (List.toArray (cur.set (off + i) v))) (setRow_heap w r _ _ t _ hg) (by simp at hl ⊢; omega) (fun x hx => h1 x (by simp [hx]))
    simp only [storeCells, Sem.run_bind, hst, Result.andThen_ok, ih, setRow_setRow]
    congr 3
    unfold splice
    apply List.ext_getElem?
    intro k
    simp only [List.getElem?_append, List.length_append, List.length_take, List.length_cons, List.length_set, List.getElem?_take, List.getElem?_set, List.getElem?_drop]
    have e1 : min (off + (i + 1)) cur.length = off + i + 1 := by simp at hl; omega
    have e2 : min (off + i) cur.length = off + i := by omega
    rw [e1, e2]
    by_cases hk : k < off + i
    · rw [if_pos (show k < off + i + 1 + rest.length by omega), if_pos (show k < off + i + 1 by omega), if_pos (show k < off + (i + 1) by omega), if_neg (show ¬ off + i = k by omega), if_pos (show k < off + i + (rest.length + 1) by omega), if_pos hk, if_pos hk]
    · by_cases hk2 : k = off + i
      · subst hk2
        rw [if_pos (show off + i < off + i + 1 + rest.length by omega), if_pos (show off + i < off + i + 1 by omega), if_pos (show off + i < off + (i + 1) by omega), if_pos rfl, if_pos hi, if_pos (show off + i < off + i + (rest.length + 1) by omega), if_neg (by omega)]
        simp
      · by_cases hk3 : k < off + i + 1 + rest.length
        · rw [if_pos hk3, if_neg (by omega), if_pos (by omega), if_neg (by omega)]
          have : k - (off + i) = (k - (off + i + 1)) + 1 := by omega
          rw [this, List.getElem?_cons_succ]
        · rw [if_neg hk3, if_neg (by omega), if_neg (by omega)]
          congr 1
          omega

/-! ### abstract values' cells -/
def cellsOf : AV → Option (List AV)
  | .val v => some (v.cells.toList.map .val)
  | .agg cs => some cs
  | .any => none
  | a => some [a]
def oneA : AV → Bool
  | .val v => v.oneCell'
  | .agg _ | .tuple _ | .any => false
  | _ => true
def allVals : List AV → Option (List Value)
  | [] => some []
  | .val v :: r => match allVals r with | some l => some (v :: l) | none => none
  | _ :: _ => none
def mkAgg (cs : List AV) : AV := match allVals cs with | some l => .val (.agg (List.toArray l)) | none => .agg cs

theorem allVals_rels {σ : Nat → Option Nat} : ∀ {cs : List AV} {l vs : List Value}, allVals cs = some l → Rels σ cs vs → vs = l
  | [], l, vs, h, k => by simp [allVals] at h; simp only [Rels] at k; rw [k, ← h]
  | .val v :: r, l, vs, h, k => by
    simp only [allVals] at h
    simp only [Rels, Rel] at k
    obtain ⟨x, xs, rfl, rfl, h3⟩ := k
    split at h
    · rename_i l' e; simp at h; subst h; rw [allVals_rels e h3]
    · cases h
  | .ptr _ _ :: _, l, vs, h, _ => by simp [allVals] at h
  | .slice _ _ _ _ :: _, l, vs, h, _ => by simp [allVals] at h
  | .agg _ :: _, l, vs, h, _ => by simp [allVals] at h
  | .tuple _ :: _, l, vs, h, _ => by simp [allVals] at h
  | .func _ _ _ :: _, l, vs, h, _ => by simp [allVals] at h
  | .map _ :: _, l, vs, h, _ => by simp [allVals] at h
  | .any :: _, l, vs, h, _ => by simp [allVals] at h

theorem mkAgg_rel {σ : Nat → Option Nat} {cs : List AV} {vs : List Value} (h : Rels σ cs vs) : Rel σ (mkAgg cs) (.agg (List.toArray vs)) := by
  unfold mkAgg
  split
  · rename_i l e; simp only [Rel]; rw [allVals_rels e h]
  · simp only [Rel]; exact ⟨vs, rfl, h⟩

theorem cellsOf_rels {σ : Nat → Option Nat} {a : AV} {v : Value} (h : Rel σ a v) {cs : List AV} (hc : cellsOf a = some cs) : Rels σ cs v.cells.toList := by
  cases a <;> simp only [Rel] at h <;> simp only [cellsOf, Option.some.injEq, reduceCtorEq] at hc
  case val x => subst h; subst hc; exact Rels.vals _
  case agg cs => obtain ⟨vs, rfl, h⟩ := h; subst hc; simpa [Value.cells] using h
  case ptr b off => obtain ⟨r, h1, rfl⟩ := h; subst hc; simp [Value.cells, Rels, Rel, h1]
  case slice b off len cap => obtain ⟨r, h1, rfl⟩ := h; subst hc; simp [Value.cells, Rels, Rel, h1]
  case tuple cs => obtain ⟨vs, rfl, h⟩ := h; subst hc; simp [Value.cells, Rels, Rel, h]
  case func f a b => obtain ⟨xs, ys, rfl, h⟩ := h; subst hc; simp only [Rels, Rel]; exact ⟨_, [], rfl, ⟨xs, ys, rfl, h⟩, rfl⟩
  case map b => obtain ⟨r, h1, rfl⟩ := h; subst hc; simp [Value.cells, Rels, Rel, h1]

theorem oneA_rel {σ : Nat → Option Nat} {a : AV} {v : Value} (h : Rel σ a v) (ho : oneA a = true) : v.oneCell' = true := by
  cases a <;> simp only [Rel] at h <;> simp only [oneA] at ho
  case val x => subst h; exact ho
  case ptr b off => obtain ⟨r, h1, rfl⟩ := h; rfl
  case slice b off len cap => obtain ⟨r, h1, rfl⟩ := h; rfl
  case func f a b => obtain ⟨xs, ys, rfl, h⟩ := h; rfl
  case map b => obtain ⟨r, h1, rfl⟩ := h; rfl
  all_goals cases ho

theorem oneA_rels {σ : Nat → Option Nat} : ∀ {as : List AV} {vs : List Value}, Rels σ as vs → as.all oneA = true → ∀ v ∈ vs, v.oneCell' = true
  | [], vs, k, _ => by simp only [Rels] at k; subst k; simp
  | a :: as, vs, k, ho => by
    simp only [Rels] at k
    obtain ⟨x, xs, rfl, h2, h3⟩ := k
    simp only [List.all_cons, Bool.and_eq_true] at ho
    intro v hv
    rcases List.mem_cons.1 hv with rfl | hv
    · exact oneA_rel h2 ho.1
    · exact oneA_rels h3 ho.2 v hv

def loadA (P : Program) (t : TypeId) (cells : List AV) (off : Nat) : Option AV :=
  match P.underlying t, P.info? t with
  | some d, some i => match isAggD d with
    | true => let cs := (cells.drop off).take i.size; if cs.length = i.size then some (mkAgg cs) else none
    | false => cells[off]?
  | _, _ => none

theorem loadA_run {P : Program} {σ : Nat → Option Nat} {t : TypeId} {cells : List AV} {off : Nat} {a : AV} (h : loadA P t cells off = some a) {w : World} {r : Nat} {vs : List Value} {e : TypeId} {fr : Nat × Nat}
    (hr : w.heap[r]? = some (.cells (List.toArray vs) e fr)) (hv : Rels σ cells vs) : ∃ v, (loadVar t ⟨r, off, none⟩).run P w = .ok v w ∧ Rel σ a v := by
  unfold loadA at h
  split at h
  · rename_i d i hd hi
    split at h
    · rename_i hagg
      simp only at h
      split at h
      · rename_i hlen
        cases h
        have hv' := Rels.take i.size (Rels.drop off hv)
        refine ⟨.agg (List.toArray ((vs.drop off).take i.size)), ?_, mkAgg_rel hv'⟩
        unfold loadVar
        rw [Sem.run_bind, run_isAgg hd w, hagg]
        simp only [Result.andThen_ok, if_true, Sem.run_bind, run_sizeOf hi w]
        rw [run_loadCells_row w r off i.size e fr vs _ hr rfl (by rw [← Rels.length hv']; exact hlen)]
        rfl
      · cases h
    · rename_i hagg
      obtain ⟨v, h1, h2⟩ := Rels.get hv h
      refine ⟨v, ?_, h2⟩
      unfold loadVar
      rw [Sem.run_bind, run_isAgg hd w, hagg]
      simp only [Result.andThen_ok, Bool.false_eq_true, if_false, run_load]
      rw [cell_of_row w r off _ e fr hr]
      simp [h1]
  · cases h

def storeA (P : Program) (t : TypeId) (cells : List AV) (off : Nat) (a : AV) : Option (List AV) :=
  match P.info? t with
  | some i => match cellsOf a with
    | some cs => if cs.length = i.size ∧ off + cs.length ≤ cells.length ∧ cs.all oneA = true then some (splice cells off cs) else none
    | none => none
  | none => none

theorem Rels.splice {σ : Nat → Option Nat} {cells new : List AV} {vs xs : List Value} {off : Nat} (h : Rels σ cells vs) (k : Rels σ new xs) : Rels σ (Ab.splice cells off new) (Ab.splice vs off xs) := by
  unfold Ab.splice
  rw [Rels.length k]
  exact Rels.append (Rels.append (Rels.take _ h) k) (Rels.drop _ h)

theorem storeA_run {P : Program} {σ : Nat → Option Nat} {t : TypeId} {cells cells' : List AV} {off : Nat} {a : AV} {v : Value} (h : storeA P t cells off a = some cells') (ha : Rel σ a v) {w : World} {r : Nat} {vs : List Value} {e : TypeId}
    (hr : w.heap[r]? = some (.cells (List.toArray vs) e (0, 0))) (hv : Rels σ cells vs) :
    ∃ vs', (storeVar t ⟨r, off, none⟩ v).run P w = .ok () (w.setRow r (List.toArray vs')) ∧ Rels σ cells' vs' := by
  unfold storeA at h
  split at h
  · rename_i i hi
    split at h
    · rename_i cs hcc
      split at h
      · rename_i hc
        obtain ⟨h1, h2, h3⟩ := hc
        cases h
        have hcs := cellsOf_rels ha hcc
        refine ⟨Ab.splice vs off v.cells.toList, ?_, Rels.splice hv hcs⟩
        have hl := Rels.length hcs
        unfold storeVar
        rw [Sem.run_bind, run_sizeOf hi w]
        simp only [Result.andThen_ok]
        have e1 : v.cells.size = i.size := by rw [← h1, hl]; simp
        rw [if_neg (by simp [e1])]
        have := run_storeCells_row (P := P) r e v.cells.toList off 0 vs w hr (by rw [← hl, ← Rels.length hv]; simpa using h2) (oneA_rels hcs h3)
        simpa using this
      · cases h
    · cases h
  · cases h

/-! ### equality of structs and arrays of plain data -/
def eqL (P : Program) (cmp : TypeId → Value → Value → Option Bool) (xs ys : Array Value) : List (TypeId × Nat) → Option Bool
  | [] => some true
  | (t, o) :: r => match evalSem P (part t xs o), evalSem P (part t ys o) with
    | some a, some b => match cmp t a b, eqL P cmp xs ys r with
      | some p, some q => some (p && q)
      | _, _ => none
    | _, _ => none
def eqT (P : Program) : Nat → TypeId → Value → Value → Option Bool
  | 0, _, _, _ => none
  | n + 1, t, x, y => match P.underlying t, x, y with
    | some .bool, .bool a, .bool b => some (a == b)
    | some (.int _), .int k a, .int k' b => match decide (k = k') with | true => some (a == b) | false => none
    | some .string, .string a, .string b => some (a == b)
    | some (.struct fs), .agg xs, .agg ys => match P.stoodInHeld t, fs.toList.all fun f => f.name != "_" with
      | false, true => eqL P (eqT P n) xs ys (fs.toList.map fun f => (f.type, f.offset))
      | _, _ => none
    | some (.array m e), .agg xs, .agg ys => match P.info? e with
      | some _ => eqL P (eqT P n) xs ys ((List.range m).map fun i => (e, i * P.cellsOf e))
      | none => none
    | _, _, _ => none

section
variable {P : Program}
theorem run_eqL_fields {d : Nat} {cmp : TypeId → Value → Value → Option Bool} (hc : ∀ t x y r w, cmp t x y = some r → (Op.equalIn d t x y).run P w = .ok r w) (xs ys : Array Value) (w : World) :
    ∀ (fs : List Field) (r : Bool), (fs.all fun f => f.name != "_") = true → eqL P cmp xs ys (fs.map fun f => (f.type, f.offset)) = some r → (Op.eqFields d xs ys fs).run P w = .ok r w
  | [], r, _, h => by simp only [List.map_nil, eqL, Option.some.injEq] at h; subst h; simp [Op.eqFields]
  | f :: fs, r, hn, h => by
    simp only [List.all_cons, Bool.and_eq_true, bne_iff_ne, ne_eq] at hn
    simp only [List.map_cons, eqL] at h
    split at h
    · rename_i a b ha hb
      split at h
      · rename_i p q hp hq
        cases h
        have ih := run_eqL_fields hc xs ys w fs q hn.2 hq
        simp only [Op.eqFields, hn.1, ne_eq, not_false_eq_true, if_true, Sem.run_bind, evalSem_run ha, evalSem_run hb, hc _ _ _ _ _ hp, Result.andThen_ok]
        cases p
        · simp
        · simpa using ih
      · cases h
    · cases h
theorem run_eqL_items {d c : Nat} {e : TypeId} {cmp : TypeId → Value → Value → Option Bool} (hc : ∀ t x y r w, cmp t x y = some r → (Op.equalIn d t x y).run P w = .ok r w) (xs ys : Array Value) (w : World) :
    ∀ (is : List Nat) (r : Bool), eqL P cmp xs ys (is.map fun i => (e, i * c)) = some r → (Op.eqItems d e c xs ys is).run P w = .ok r w
  | [], r, h => by simp only [List.map_nil, eqL, Option.some.injEq] at h; subst h; simp [Op.eqItems]
  | i :: is, r, h => by
    simp only [List.map_cons, eqL] at h
    split at h
    · rename_i a b ha hb
      split at h
      · rename_i p q hp hq
        cases h
        have ih := run_eqL_items hc xs ys w is q hq
        simp only [Op.eqItems, Sem.run_bind, evalSem_run ha, evalSem_run hb, hc _ _ _ _ _ hp, Result.andThen_ok]
        cases p
        · simp
        · simpa using ih
      · cases h
    · cases h
theorem run_eqT : ∀ (n d : Nat) (t : TypeId) (x y : Value) (r : Bool) (w : World), n ≤ d → eqT P n t x y = some r → (Op.equalIn d t x y).run P w = .ok r w
  | 0, _, _, _, _, _, _, _, h => by simp [eqT] at h
  | n + 1, 0, _, _, _, _, _, hd, _ => by omega
  | n + 1, d + 1, t, x, y, r, w, hd, h => by
    have IH : ∀ t x y r w, eqT P n t x y = some r → (Op.equalIn d t x y).run P w = .ok r w := fun t x y r w h => run_eqT n d t x y r w (by omega) h
    unfold eqT at h
    split at h
    · rename_i hu
      cases h
      exact run_equalIn_bool' w d t _ _ hu
    · rename_i hu
      split at h
      · rename_i hk
        have hk := of_decide_eq_true hk
        subst hk
        cases h
        exact run_equalIn_int w d t _ _ _ _ hu
      · cases h
    · rename_i hu
      cases h
      rw [beq_toListBytes]
      exact run_equalIn_string w d t _ _ hu
    · rename_i fs xs ys hu
      split at h
      · rename_i hs hn
        have hfs : P.fieldsOf t = fs := by simp [Program.fieldsOf, hu]
        rw [run_equalIn_struct w d t xs ys (by rw [hfs]; exact hu) hs, hfs]
        exact run_eqL_fields IH xs ys w _ r hn h
      · cases h
    · rename_i m e xs ys hu
      split at h
      · rename_i i hi
        rw [run_equalIn_array w d xs ys hu hi]
        exact run_eqL_items IH xs ys w _ r h
      · cases h
    · cases h
end

end Go.Ab
namespace Go.Ab

abbrev Wr := List (Loc × Con)
abbrev Hp := List (Nat × Con)

/-- Operation i, in whatever state agrees with rd, comes to the state with wr laid over it; new blocks' names lie in [lo, hi). -/
def Exec (P : Program) (N : Nat) (ops : Array Oper) (i : Nat) (rd wr : Wr) (lo hi : Nat) : Prop :=
  ∀ (Q : Exit → Act → World → Prop) (w0 : World) (own : Nat → Prop) (σ : Nat → Option Nat) (u : U) (a : Act) (w : World), Fits N w0 own σ u a w → (∀ x ∈ rd, u x.1 = some x.2) → (∀ b, lo ≤ b → b < hi → σ b = none) →
    ∀ K : Act → World → Prop, (∀ σ' a' w', Le σ σ' → (∀ b, σ b = none → (b < lo ∨ hi ≤ b) → σ' b = none) → Fits N w0 own σ' (upd u wr) a' w' → K a' w') → wpOp P ops Q i K a w

theorem exec_of_wp {P : Program} {N : Nat} {ops : Array Oper} {i : Nat} {rd wr : Wr} {lo hi : Nat} {o : Oper} (ho : ops[i]? = some o)
    (hwant : ∀ w0 own σ u a w, Fits N w0 own σ u a w → (∀ x ∈ rd, u x.1 = some x.2) → Region.wanted o (yielded ops a.tmps) = true)
    (h : ∀ (Q : Exit → Act → World → Prop) w0 own σ u a w, Fits N w0 own σ u a w → (∀ x ∈ rd, u x.1 = some x.2) → (∀ b, lo ≤ b → b < hi → σ b = none) →
      ∀ K : Act → World → Prop, (∀ σ' a' w', Le σ σ' → (∀ b, σ b = none → (b < lo ∨ hi ≤ b) → σ' b = none) → Fits N w0 own σ' (upd u wr) a' w' → K a' w') → o.wp P a w K Q) :
    Exec P N ops i rd wr lo hi := by
  intro Q w0 own σ u a w hf hr hn K hK
  unfold wpOp
  rw [ho]
  simp only
  rw [if_pos (hwant w0 own σ u a w hf hr)]
  exact .inl (h Q w0 own σ u a w hf hr hn K hK)

/-! ### operands -/
def opd (tmps : List AV) : Operand → Option AV
  | .tmp t => tmps[t]?
  | .const v => some (.val v)
  | .func f => some (.func f [] [])
  | .global _ => none
def rdOf (tmps : List AV) : Operand → Wr
  | .tmp t => match tmps[t]? with | some a => [(.tmp t, .av a)] | none => []
  | _ => []
def rdAll (tmps : List AV) (o : Oper) : Wr := o.op.operands.toList.flatMap (rdOf tmps)

theorem opd_rel {N : Nat} {w0 : World} {own : Nat → Prop} {σ : Nat → Option Nat} {u : U} {a : Act} {w : World} (hf : Fits N w0 own σ u a w) {tmps : List AV} {x : Operand} {r : AV}
    (hr : ∀ p ∈ rdOf tmps x, u p.1 = some p.2) (h : opd tmps x = some r) : Rel σ r (a.eval x) := by
  cases x with
  | tmp t =>
    simp only [opd] at h
    have h1 := hr (.tmp t, .av r) (by simp [rdOf, h])
    obtain ⟨y, hy, hrel⟩ := hf.tmp t r h1
    simpa [Act.eval, hy] using hrel
  | const v => simp only [opd, Option.some.injEq] at h; subst h; simp [Rel, Act.eval]
  | func f => simp only [opd, Option.some.injEq] at h; subst h; simp only [Rel, Act.eval]; exact ⟨[], [], rfl, by simp [Rels], by simp [Rels]⟩
  | global g => simp [opd] at h

theorem rdAll_mem {u : U} {tmps : List AV} {o : Oper} (h : ∀ p ∈ rdAll tmps o, u p.1 = some p.2) {x : Operand} (hx : x ∈ o.op.operands) : ∀ p ∈ rdOf tmps x, u p.1 = some p.2 :=
  fun p hp => h p (List.mem_flatMap.2 ⟨x, by simpa using hx, hp⟩)

def valEnv (tmps : List AV) (x : Operand) : Value := match opd tmps x with | some (.val v) => v | _ => undef
def isVal (tmps : List AV) (x : Operand) : Bool := match opd tmps x with | some (.val _) => true | _ => false

theorem valEnv_eval {N : Nat} {w0 : World} {own : Nat → Prop} {σ : Nat → Option Nat} {u : U} {a : Act} {w : World} (hf : Fits N w0 own σ u a w) {tmps : List AV} {x : Operand}
    (hr : ∀ p ∈ rdOf tmps x, u p.1 = some p.2) (h : isVal tmps x = true) : a.eval x = valEnv tmps x := by
  unfold isVal at h
  split at h
  · rename_i v e
    have := opd_rel hf hr e
    simp only [Rel] at this
    rw [this]
    simp [valEnv, e]
  · cases h

def noSel : Op → Bool | .select .. => false | _ => true

theorem exec_val {N : Nat} {w0 : World} {own : Nat → Prop} {σ : Nat → Option Nat} {u : U} {a : Act} {w : World} (hf : Fits N w0 own σ u a w) {tmps : List AV} {o : Oper}
    (hr : ∀ p ∈ rdAll tmps o, u p.1 = some p.2) (hs : noSel o.op = true) (h : o.op.operands.toList.all (isVal tmps) = true) : execOp a.eval o = execOp (valEnv tmps) o := by
  refine execOp_congr o (fun cs b e => by simp [e, noSel] at hs) fun x hx => ?_
  exact valEnv_eval hf (rdAll_mem hr hx) (List.all_eq_true.1 h x (by simpa using hx))

/-! ### the end of an operation -/
variable {β : Type}
def fin (N : Nat) (o : Oper) (rd : Wr) (r : AV) (extra : Wr) (K : Wr → Wr → Option β) : Option β :=
  match o.dst with
  | some d => match decide (d < N) with | true => K rd ((.tmp d, .av r) :: extra) | false => none
  | none => K rd extra

theorem fin_sound {P : Program} {N : Nat} {ops : Array Oper} {i : Nat} {rd extra : Wr} {lo hi : Nat} {o : Oper} (ho : ops[i]? = some o) {r : AV} {K : Wr → Wr → Option β} {res : β}
    (h : fin N o rd r extra K = some res)
    (hwant : ∀ w0 own σ u a w, Fits N w0 own σ u a w → (∀ x ∈ rd, u x.1 = some x.2) → Region.wanted o (yielded ops a.tmps) = true)
    (hrun : ∀ (Q : Exit → Act → World → Prop) w0 own σ u a w, Fits N w0 own σ u a w → (∀ x ∈ rd, u x.1 = some x.2) → (∀ b, lo ≤ b → b < hi → σ b = none) →
      ∀ K : Act → World → Prop, (∀ σ' x w', Le σ σ' → (∀ b, σ b = none → (b < lo ∨ hi ≤ b) → σ' b = none) → Fits N w0 own σ' (upd u extra) a w' → Rel σ' r x → K (a.put o.dst x) w') → o.wp P a w K Q) :
    ∃ rd' wr, K rd' wr = some res ∧ rd' = rd ∧ Exec P N ops i rd' wr lo hi := by
  unfold fin at h
  split at h
  · rename_i d hd
    split at h
    · rename_i hlt
      refine ⟨rd, _, h, rfl, exec_of_wp ho hwant fun Q w0 own σ u a w hf hr hn K' hK => ?_⟩
      refine hrun Q w0 own σ u a w hf hr hn K' fun σ' x w' h1 h2 h3 h4 => hK σ' _ w' h1 h2 ?_
      rw [hd]
      exact h3.put (of_decide_eq_true hlt) h4
    · cases h
  · rename_i hd
    refine ⟨rd, _, h, rfl, exec_of_wp ho hwant fun Q w0 own σ u a w hf hr hn K' hK => ?_⟩
    refine hrun Q w0 own σ u a w hf hr hn K' fun σ' x w' h1 h2 h3 h4 => hK σ' _ w' h1 h2 ?_
    rw [hd]
    exact h3

/-- The commonest: the operation's run gives a value. -/
theorem fin_value {P : Program} {N : Nat} {ops : Array Oper} {i : Nat} {rd extra : Wr} {lo hi : Nat} {o : Oper} (ho : ops[i]? = some o) {r : AV} {K : Wr → Wr → Option β} {res : β}
    (h : fin N o rd r extra K = some res)
    (hwant : ∀ w0 own σ u a w, Fits N w0 own σ u a w → (∀ x ∈ rd, u x.1 = some x.2) → Region.wanted o (yielded ops a.tmps) = true)
    (hrun : ∀ w0 own σ u a w, Fits N w0 own σ u a w → (∀ x ∈ rd, u x.1 = some x.2) → (∀ b, lo ≤ b → b < hi → σ b = none) →
      ∃ σ' x w', (execOp a.eval o).run P w = .ok (.value x) w' ∧ Le σ σ' ∧ (∀ b, σ b = none → (b < lo ∨ hi ≤ b) → σ' b = none) ∧ Fits N w0 own σ' (upd u extra) a w' ∧ Rel σ' r x) :
    ∃ rd' wr, K rd' wr = some res ∧ rd' = rd ∧ Exec P N ops i rd' wr lo hi := by
  refine fin_sound ho h hwant fun Q w0 own σ u a w hf hr hn K' hK => ?_
  obtain ⟨σ', x, w', h1, h2, h3, h4, h5⟩ := hrun w0 own σ u a w hf hr hn
  unfold Oper.wp
  rw [h1]
  exact hK σ' x w' h2 h3 h4 h5

/-- No memory turns. -/
theorem fin_quiet {P : Program} {N : Nat} {ops : Array Oper} {i : Nat} {rd : Wr} {lo hi : Nat} {o : Oper} (ho : ops[i]? = some o) {r : AV} {K : Wr → Wr → Option β} {res : β}
    (h : fin N o rd r [] K = some res)
    (hwant : ∀ w0 own σ u a w, Fits N w0 own σ u a w → (∀ x ∈ rd, u x.1 = some x.2) → Region.wanted o (yielded ops a.tmps) = true)
    (hrun : ∀ w0 own σ u a w, Fits N w0 own σ u a w → (∀ x ∈ rd, u x.1 = some x.2) → ∃ x, (execOp a.eval o).run P w = .ok (.value x) w ∧ Rel σ r x) :
    ∃ rd' wr, K rd' wr = some res ∧ rd' = rd ∧ Exec P N ops i rd' wr lo hi :=
  fin_value ho h hwant fun w0 own σ u a w hf hr _ => by
    obtain ⟨x, h1, h2⟩ := hrun w0 own σ u a w hf hr
    exact ⟨σ, x, w, h1, Le.refl σ, fun _ h _ => h, hf, h2⟩

/-! ### blocks by name -/
def hget : Hp → Nat → Option Con
  | [], _ => none
  | (b', c) :: r, b => match Nat.beq b' b with | true => some c | false => hget r b

mutual
def names : AV → List Nat
  | .val _ => []
  | .ptr b _ => [b]
  | .slice b _ _ _ => [b]
  | .agg cs => namesL cs
  | .tuple cs => namesL cs
  | .func _ a b => namesL a ++ namesL b
  | .map b => [b]
  | .any => []
def namesL : List AV → List Nat
  | [] => []
  | a :: as => names a ++ namesL as
end
def conNames : Con → List Nat
  | .av a => names a
  | .row _ cs => namesL cs
  | .obj _ => []
def hasN : List Nat → Nat → Bool
  | [], _ => false
  | x :: r, b => match Nat.beq x b with | true => true | false => hasN r b
def reach : Nat → Hp → List Nat → List Nat → List Nat
  | 0, _, _, acc => acc
  | _ + 1, _, [], acc => acc
  | n + 1, heap, b :: todo, acc => match hasN acc b with
    | true => reach n heap todo acc
    | false => match hget heap b with
      | some c => reach n heap (conNames c ++ todo) (b :: acc)
      | none => reach n heap todo acc
def subheap (heap : Hp) : List Nat → Hp
  | [] => []
  | b :: r => match hget heap b with
    | some c => (b, c) :: subheap heap r
    | none => subheap heap r

abbrev CallR (β : Type) := FuncId → List AV → Hp → Nat → Nat → (AV → Hp → (Nat → Bool) → Option β) → Option β

def ConFits (σ : Nat → Option Nat) (w : World) (b : Nat) : Con → Prop
  | .row e cs => ∃ r vs, σ b = some r ∧ w.heap[r]? = some (.cells (List.toArray vs) e (0, 0)) ∧ Rels σ cs vs
  | .obj o => ∃ r o', σ b = some r ∧ w.heap[r]? = some o' ∧ Den o o'
  | .av _ => True
def HFits (σ : Nat → Option Nat) (H : Hp) (w : World) : Prop := ∀ b c, hget H b = some c → ConFits σ w b c

/-- What a call comes to. -/
def CallFacts (P : Program) (f : FuncId) (args : List AV) (H : Hp) (lo hi : Nat) (res : AV) (H' : Hp) : Prop :=
  ∀ (σ : Nat → Option Nat) (vals : List Value) (w : World), (∀ b b' r, σ b = some r → σ b' = some r → b = b') → (∀ b r, σ b = some r → r < w.heap.size) → Rels σ args vals → HFits σ H w →
    (∀ b, lo ≤ b → b < hi → σ b = none) →
    Calls P f (List.toArray vals) w fun e w' => ∃ σ' v, e = .returned v ∧ Le σ σ' ∧ (∀ b, σ b = none → (b < lo ∨ hi ≤ b) → σ' b = none) ∧ Rel σ' res v ∧ HFits σ' H' w' ∧
      (∀ b b' r, σ' b = some r → σ' b' = some r → b = b') ∧ (∀ b r, σ' b = some r → r < w'.heap.size) ∧ (∀ b c, hget H' b = some c → (∃ c', hget H b = some c') ∨ ∀ r, σ' b = some r → w.heap.size ≤ r) ∧
      w'.os = w.os ∧ w'.tape = w.tape ∧ w'.output = w.output ∧ w.heap.size ≤ w'.heap.size ∧
      (∀ k, k < w.heap.size → (∀ b c, hget H b = some c → σ b ≠ some k) → w'.heap[k]? = w.heap[k]?)

def CallOk (P : Program) (call : CallR β) : Prop :=
  ∀ f args H lo hi K res, call f args H lo hi K = some res → ∃ r H' T, K r H' T = some res ∧ CallFacts P f args H lo hi r H' ∧ ∀ p ∈ H', T p.1 = false → hget H p.1 = some p.2

def hpWr (H : Hp) : Wr := H.map fun p => (.blk p.1, p.2)
/-- Those blocks that may have been changed. -/
def keepH (T : Nat → Bool) : Hp → Hp
  | [] => []
  | (b, c) :: r => match T b with
    | true => (b, c) :: keepH T r
    | false => keepH T r
theorem upd_same {u : U} {b : Nat} {c : Con} (hu : u (.blk b) = some c) : ∀ {r : Hp}, (∀ p ∈ r, p.1 = b → p.2 = c) → upd u (hpWr r) (.blk b) = some c
  | [], _ => hu
  | (b', c') :: r, h => by
    simp only [hpWr, List.map_cons, upd, upd1]
    split
    · rename_i e
      cases e
      have e2 : c' = c := h (b, c') (by simp) rfl
      rw [e2]
    · exact upd_same hu fun p hp => h p (List.mem_cons_of_mem _ hp)
theorem upd_keep {u : U} {T : Nat → Bool} : ∀ {H : Hp}, (∀ p ∈ H, T p.1 = false → u (.blk p.1) = some p.2) → upd u (hpWr (keepH T H)) = upd u (hpWr H)
  | [], _ => rfl
  | (b, c) :: r, h => by
    have ih := upd_keep (T := T) (u := u) (H := r) fun p hp => h p (List.mem_cons_of_mem _ hp)
    unfold keepH
    split
    · simp only [hpWr, List.map_cons, upd]
      have ih' : upd u (List.map (fun p => (Loc.blk p.1, p.2)) (keepH T r)) = upd u (List.map (fun p => (Loc.blk p.1, p.2)) r) := ih
      rw [ih']
    · rename_i hT
      rw [ih]
      have hu := h (b, c) (by simp) hT
      have hs : upd u (hpWr r) (.blk b) = some c := upd_same hu fun p hp e => by
        have := h p (List.mem_cons_of_mem _ hp) (by rw [e]; exact hT)
        rw [e, hu] at this
        exact (Option.some.inj this).symm
      funext l
      simp only [hpWr, List.map_cons, upd, upd1]
      split
      · rename_i e
        rw [e]; exact hs
      · rfl
def covers (H' H : Hp) : Bool := H.all fun p => (hget H' p.1).isSome
def noAv (H : Hp) : Bool := H.all fun p => match p.2 with | .av _ => false | _ => true

theorem hget_hpWr (H : Hp) (b : Nat) : (hpWr H).find? (fun p => decide (p.1 = Loc.blk b)) = (hget H b).map fun c => (Loc.blk b, c) := by
  induction H with
  | nil => rfl
  | cons p H ih =>
    obtain ⟨b', c⟩ := p
    simp only [hpWr, List.map_cons, List.find?_cons, hget]
    by_cases e : b' = b
    · subst e; simp
    · have h1 : decide (Loc.blk b' = Loc.blk b) = false := by simp [e]
      have h2 : Nat.beq b' b = false := by
        cases hb : Nat.beq b' b with
        | false => rfl
        | true => exact absurd (Nat.eq_of_beq_eq_true hb) e
      rw [h1, h2]
      exact ih

theorem hpWr_tmp (H : Hp) (t : Nat) : (hpWr H).find? (fun p => decide (p.1 = Loc.tmp t)) = none := by
  simp [hpWr]

theorem noAv_spec : ∀ {L : Hp}, noAv L = true → ∀ b v, hget L b ≠ some (.av v)
  | [], _, b, v, h => by simp [hget] at h
  | (b', c') :: L, hall, b, v, h => by
    simp only [noAv, List.all_cons, Bool.and_eq_true] at hall
    simp only [hget] at h
    split at h
    · cases h; simp at hall
    · exact noAv_spec (L := L) hall.2 b v h

/-- The caller's state behind a call. -/
theorem Fits.call {N : Nat} {w0 : World} {own : Nat → Prop} {σ σ' : Nat → Option Nat} {u : U} {a : Act} {w w' : World} (hf : Fits N w0 own σ u a w) {H H' : Hp} (hH : ∀ b c, hget H b = some c → u (.blk b) = some c) (hnoH : noAv H = true)
    (hcov : covers H' H = true) (hle : Le σ σ') (hH' : HFits σ' H' w') (hinj : ∀ b b' r, σ' b = some r → σ' b' = some r → b = b') (hbd : ∀ b r, σ' b = some r → r < w'.heap.size)
    (hnew : ∀ b c, hget H' b = some c → (∃ c', hget H b = some c') ∨ ∀ r, σ' b = some r → w.heap.size ≤ r) (hos : w'.os = w.os) (htape : w'.tape = w.tape) (hout : w'.output = w.output) (hsz : w.heap.size ≤ w'.heap.size)
    (hframe : ∀ k, k < w.heap.size → (∀ b c, hget H b = some c → σ b ≠ some k) → w'.heap[k]? = w.heap[k]?) : Fits N w0 own σ' (upd u (hpWr H')) a w' := by
  have hget_cov : ∀ b c, hget H b = some c → ∃ c', hget H' b = some c' := by
    intro b c hb
    have : ∀ (L : Hp), (L.all fun p => (hget H' p.1).isSome) = true → ∀ b c, hget L b = some c → ∃ c', hget H' b = some c' := by
      intro L
      induction L with
      | nil => intro _ b c h; simp [hget] at h
      | cons p L ih =>
        intro hall b c h
        obtain ⟨b', c'⟩ := p
        simp only [List.all_cons, Bool.and_eq_true] at hall
        simp only [hget] at h
        split at h
        · rename_i e
          rw [← Nat.eq_of_beq_eq_true e]
          exact Option.isSome_iff_exists.1 hall.1
        · exact ih hall.2 b c h
    exact this H hcov b c hb
  have old : ∀ b r, hget H' b = none → σ b = some r → w'.heap[r]? = w.heap[r]? := by
    intro b r hb hs
    refine hframe r (hf.bound _ _ hs) fun b' c' h1 h2 => ?_
    obtain ⟨c'', h3⟩ := hget_cov b' c' h1
    rw [hf.inj _ _ _ h2 hs, hb] at h3
    cases h3
  have ownH : ∀ b c, hget H b = some c → ∀ r, σ b = some r → own r ∨ w0.heap.size ≤ r := by
    intro b c hb r hs
    cases c with
    | row e cs => exact hf.ownsR b e cs r (hH _ _ hb) hs
    | obj o => exact hf.ownsO b o r (hH _ _ hb) hs
    | av v => exact absurd hb (noAv_spec hnoH b v)
  have sigH : ∀ b c, hget H b = some c → ∃ r, σ b = some r := by
    intro b c hb
    cases c with
    | row e cs => obtain ⟨r, _, h1, _⟩ := hf.row b e cs (hH _ _ hb); exact ⟨r, h1⟩
    | obj o => obtain ⟨r, _, h1, _⟩ := hf.obj b o (hH _ _ hb); exact ⟨r, h1⟩
    | av v => exact absurd hb (noAv_spec hnoH b v)
  have ownH' : ∀ b c, hget H' b = some c → ∀ r, σ' b = some r → own r ∨ w0.heap.size ≤ r := by
    intro b c hb r hs
    rcases hnew b c hb with ⟨c', hc'⟩ | h1
    · obtain ⟨r0, h2⟩ := sigH b c' hc'
      have := hle _ _ h2
      rw [hs] at this
      cases this
      exact ownH b c' hc' r h2
    · exact .inr (Nat.le_trans hf.grown (h1 r hs))
  refine ⟨hf.defers, hf.size, fun t v k => ?_, fun b e cs k => ?_, fun b o k => ?_, hinj, hbd, fun b e cs r k hs => ?_, fun b o r k hs => ?_, hos.trans hf.os, htape.trans hf.tape, hout.trans hf.output, Nat.le_trans hf.grown hsz, fun k hk hn => ?_⟩
  · rw [upd_eq, hpWr_tmp] at k
    obtain ⟨x, h1, h2⟩ := hf.tmp t v k
    exact ⟨x, h1, Rel.mono hle _ _ h2⟩
  · rw [upd_eq, hget_hpWr] at k
    cases hb : hget H' b with
    | some c =>
      rw [hb] at k
      simp at k
      subst k
      exact hH' b _ hb
    | none =>
      rw [hb] at k
      obtain ⟨r, vs, h1, h2, h3⟩ := hf.row b e cs k
      exact ⟨r, vs, hle _ _ h1, by rw [old b r hb h1]; exact h2, Rels.mono hle _ _ h3⟩
  · rw [upd_eq, hget_hpWr] at k
    cases hb : hget H' b with
    | some c =>
      rw [hb] at k
      simp at k
      subst k
      exact hH' b _ hb
    | none =>
      rw [hb] at k
      obtain ⟨r, o', h1, h2, h3⟩ := hf.obj b o k
      exact ⟨r, o', hle _ _ h1, by rw [old b r hb h1]; exact h2, h3⟩
  · rw [upd_eq, hget_hpWr] at k
    cases hb : hget H' b with
    | some c => exact ownH' b c hb r hs
    | none =>
      rw [hb] at k
      obtain ⟨r1, vs, h1, _⟩ := hf.row b e cs k
      have := hle _ _ h1
      rw [hs] at this
      cases this
      exact hf.ownsR b e cs r k h1
  · rw [upd_eq, hget_hpWr] at k
    cases hb : hget H' b with
    | some c => exact ownH' b c hb r hs
    | none =>
      rw [hb] at k
      obtain ⟨r1, _, h1, _⟩ := hf.obj b o k
      have := hle _ _ h1
      rw [hs] at this
      cases this
      exact hf.ownsO b o r k h1
  · rw [hframe k (by have := hf.grown; omega) fun b c h1 h2 => ?_]
    · exact hf.frame k hk hn
    · rcases ownH b c h1 k h2 with h3 | h3
      · exact hn h3
      · omega

end Go.Ab
namespace Go.Ab
variable {β : Type}

/-! ### the operations -/
def addA (off n : Nat) : Nat := off + n

def opVal (P : Program) (N : Nat) (tmps : List AV) (o : Oper) (rd : Wr) (K : Wr → Wr → Option β) : Option β :=
  match noSel o.op && o.op.operands.toList.all (isVal tmps) with
  | true => match evalSem P (execOp (valEnv tmps) o) with
    | some (.value v) => fin N o rd (.val v) [] K
    | _ => none
  | false => none

def opNil (N : Nat) (tmps : List AV) (o : Oper) (rd : Wr) (x : Operand) (K : Wr → Wr → Option β) : Option β :=
  match opd tmps x with
  | some (.ptr b f) => fin N o rd (.ptr b f) [] K
  | some (.func f a c) => fin N o rd (.func f a c) [] K
  | _ => none

def opField (P : Program) (N : Nat) (tmps : List AV) (o : Oper) (rd : Wr) (s : TypeId) (x : Operand) (f : Nat) (K : Wr → Wr → Option β) : Option β :=
  match opd tmps x, P.underlying s with
  | some (.ptr b off), some (.struct fs) => match fs[f]? with
    | some fd => match P.info? fd.type with
      | some i => match decide (i.size = 0) with
        | true => none
        | false => fin N o rd (.ptr b (off + fd.offset)) [] K
      | none => none
    | none => none
  | _, _ => none

def opIndex (P : Program) (N : Nat) (tmps : List AV) (o : Oper) (rd : Wr) (t : TypeId) (x ix : Operand) (K : Wr → Wr → Option β) : Option β :=
  match opd tmps x, opd tmps ix, P.underlying t with
  | some (.ptr b off), some (.val (.int _ n)), some (.array len elem) => match P.info? elem with
    | some i => match decide (0 ≤ n ∧ n < (len : Int)) with
      | true => fin N o rd (.ptr b (off + n.toNat * i.size)) [] K
      | false => none
    | none => none
  | some (.slice b off len _), some (.val (.int _ n)), some (.slice elem) => match P.info? elem with
    | some i => match decide (0 ≤ n ∧ n < (len : Int)) with
      | true => fin N o rd (.ptr b (off + n.toNat * i.size)) [] K
      | false => none
    | none => none
  | _, _, _ => none

def bdA (tmps : List AV) (x : Option Operand) (dflt top : Nat) : Option Nat :=
  match x with
  | none => some dflt
  | some x => match opd tmps x with
    | some (.val (.int _ n)) => match decide (0 ≤ n ∧ n ≤ (top : Int)) with
      | true => some n.toNat
      | false => none
    | _ => none

def opSlice (P : Program) (N : Nat) (tmps : List AV) (o : Oper) (rd : Wr) (t : TypeId) (x : Operand) (lo hi mx : Option Operand) (K : Wr → Wr → Option β) : Option β :=
  match mx, opd tmps x, P.underlying t with
  | none, some (.ptr b off), some (.array n elem) => match P.info? elem, bdA tmps hi n n with
    | some i, some h => match bdA tmps lo 0 h with
      | some l => fin N o rd (.slice b (match decide (n = l) with | true => off | false => off + l * i.size) (h - l) (n - l)) [] K
      | none => none
    | _, _ => none
  | none, some (.slice b off len cap), some (.slice elem) => match P.info? elem, bdA tmps hi len cap with
    | some i, some h => match bdA tmps lo 0 h with
      | some l => fin N o rd (.slice b (match decide (cap = l) with | true => off | false => off + l * i.size) (h - l) (cap - l)) [] K
      | none => none
    | _, _ => none
  | _, _, _ => none

def opArr (P : Program) (N : Nat) (tmps : List AV) (o : Oper) (rd : Wr) (t : TypeId) (x : Operand) (K : Wr → Wr → Option β) : Option β :=
  match opd tmps x, P.underlying t with
  | some (.slice b off len _), some (.array n _) => match decide (len < n) with
    | true => none
    | false => fin N o rd (.ptr b off) [] K
  | _, _ => none

/-- A byte of a string. -/
def opPart (P : Program) (N : Nat) (tmps : List AV) (o : Oper) (rd : Wr) (t : TypeId) (x ix : Operand) (K : Wr → Wr → Option β) : Option β :=
  match opd tmps x, opd tmps ix, P.underlying t with
  | some (.val (.string s)), some (.val (.int _ n)), some .string => cond (decide (0 ≤ n ∧ n < (s.size : Int))) (fin N o rd (.val (.int .u8 (s.data.toList.getD n.toNat 0).toNat)) [] K) none
  | _, _, _ => opVal P N tmps o rd K

def bdI (tmps : List AV) (x : Option Operand) (dflt : Nat) : Option Int :=
  match x with
  | none => some dflt
  | some x => match opd tmps x with
    | some (.val (.int _ n)) => some n
    | _ => none

/-- A part of a string. -/
def opCut (P : Program) (N : Nat) (tmps : List AV) (o : Oper) (rd : Wr) (t : TypeId) (s : ByteArray) (lo hi mx : Option Operand) (K : Wr → Wr → Option β) : Option β :=
  match mx, P.underlying t, bdI tmps lo 0, bdI tmps hi s.size with
  | none, some .string, some l, some h => cond (decide (0 ≤ l ∧ l ≤ h ∧ h ≤ (s.size : Int))) (fin N o rd (.val (.string (s.extract l.toNat h.toNat))) [] K) none
  | _, _, _, _ => none

def bytesA : List AV → Option (List Int)
  | [] => some []
  | .val (.int .u8 n) :: r => match bytesA r with
    | some l => some (n :: l)
    | none => none
  | _ => none

def pushI (r : ByteArray) (n : Int) : ByteArray := r.push (UInt8.ofNat n.toNat)

/-- An own row of bytes as a string. -/
def opConv (P : Program) (N : Nat) (tmps : List AV) (heap : Hp) (o : Oper) (rd : Wr) (src dst : TypeId) (x : Operand) (K : Wr → Wr → Option β) : Option β :=
  match opd tmps x, P.underlying src, P.underlying dst with
  | some (.slice b off len _), some (.slice e), some .string => match P.underlying e, hget heap b with
    | some (.int .u8), some (.row e' cs) => match bytesA ((cs.drop off).take len) with
      | some ns => match Nat.beq ns.length len with
        | true => fin N o ((.blk b, .row e' cs) :: rd) (.val (.string (ns.foldl pushI ByteArray.empty))) [] K
        | false => none
      | none => none
    | _, _ => none
  | _, _, _ => opVal P N tmps o rd K

def opPick (N : Nat) (tmps : List AV) (o : Oper) (rd : Wr) (c x y : Operand) (K : Wr → Wr → Option β) : Option β :=
  match opd tmps c, opd tmps x, opd tmps y with
  | some (.val (.bool t)), some (.val (.bool p)), some (.val (.bool q)) => fin N o rd (.val (.bool (cond t p q))) [] K
  | some (.val (.bool t)), some p, some q => cond t (fin N o rd p [] K) (fin N o rd q [] K)
  | _, _, _ => none

def opLoad (P : Program) (N : Nat) (tmps : List AV) (heap : Hp) (o : Oper) (rd : Wr) (t : TypeId) (x : Operand) (K : Wr → Wr → Option β) : Option β :=
  match opd tmps x with
  | some (.ptr b off) => match hget heap b with
    | some (.row e cs) => match loadA P t cs off with
      | some r => fin N o ((.blk b, .row e cs) :: rd) r [] K
      | none => none
    | _ => none
  | _ => none

def opStore (P : Program) (tmps : List AV) (heap : Hp) (o : Oper) (rd : Wr) (t : TypeId) (x y : Operand) (K : Wr → Wr → Option β) : Option β :=
  match o.dst with
  | some _ => none
  | none => match opd tmps x, opd tmps y with
    | some (.ptr b off), some v => match hget heap b with
      | some (.row e cs) => match storeA P t cs off v with
        | some cs' => K ((.blk b, .row e cs) :: rd) [(.blk b, .row e cs')]
        | none => none
      | _ => none
    | _, _ => none

def opAlloc (P : Program) (N : Nat) (o : Oper) (rd : Wr) (elem : TypeId) (lo hi : Nat) (K : Wr → Wr → Option β) : Option β :=
  match P.info? elem, decide (lo < hi) with
  | some i, true => match i.zero with
    | some z => fin N o rd (.ptr lo 0) [(.blk lo, .row elem (z.cells.toList.map .val))] K
    | none => none
  | _, _ => none

def opBox (N : Nat) (tmps : List AV) (o : Oper) (rd : Wr) (elem : TypeId) (x : Operand) (lo hi : Nat) (K : Wr → Wr → Option β) : Option β :=
  match opd tmps x, decide (lo < hi) with
  | some v, true => match cellsOf v with
    | some cs => fin N o rd (.ptr lo 0) [(.blk lo, .row elem cs)] K
    | none => none
  | _, _ => none

def sliceCells (P : Program) (t : TypeId) (len : Nat) (parts : List (Nat × Value)) : Option (TypeId × List Value) :=
  match P.underlying t with
  | some (.slice elem) => match P.info? elem with
    | some i => match decide (len * i.size > 2 ^ 24), decide (len * i.size = 0), i.zero with
      | false, false, some z => match Instr.fill (fun j => some (j * i.size, i.size)) ((Array.range (len * i.size)).map (z.cells[· % z.cells.size]!)) parts with
        | some cells => some (elem, cells.toList)
        | none => none
      | _, _, _ => none
    | none => none
  | _ => none

def opBuildSlice (P : Program) (N : Nat) (tmps : List AV) (o : Oper) (rd : Wr) (t : TypeId) (len : Nat) (parts : Array (Nat × Operand)) (lo hi : Nat) (K : Wr → Wr → Option β) : Option β :=
  match (parts.toList.map (·.2)).all (isVal tmps), decide (lo < hi) with
  | true, true => match sliceCells P t len (parts.toList.map fun p => (p.1, valEnv tmps p.2)) with
    | some (elem, cells) => fin N o rd (.slice lo 0 len len) [(.blk lo, .row elem (cells.map .val))] K
    | none => none
  | _, _ => none

def opdL (tmps : List AV) : List Operand → Option (List AV)
  | [] => some []
  | x :: r => match opd tmps x, opdL tmps r with
    | some a, some l => some (a :: l)
    | _, _ => none

def opMakeFunc (N : Nat) (tmps : List AV) (o : Oper) (rd : Wr) (fn : Fn) (first captured : Array Operand) (K : Wr → Wr → Option β) : Option β :=
  match fn, opdL tmps first.toList, opdL tmps captured.toList with
  | .func f, some a, some b => fin N o rd (.func f a b) [] K
  | _, _, _ => none

def opExtract (P : Program) (N : Nat) (tmps : List AV) (o : Oper) (rd : Wr) (x : Operand) (ix : Nat) (K : Wr → Wr → Option β) : Option β :=
  match opd tmps x with
  | some (.tuple vs) => match vs[ix]? with
    | some a => fin N o rd a [] K
    | none => none
  | _ => opVal P N tmps o rd K

/-- Shifts, quotients and what is left: the count, or the divisor, may be open; a pointer against nil. -/
def opBin (P : Program) (N : Nat) (tmps : List AV) (o : Oper) (rd : Wr) (op : BinOp) (t : TypeId) (x y : Operand) (K : Wr → Wr → Option β) : Option β :=
  match opd tmps x, opd tmps y with
  | some (.val (.int k a)), some (.val (.int k' b)) => match op with
    | .shl => cond (decide (b < 0)) none (fin N o rd (.val (.int k (k.wrap (a * 2 ^ min b.toNat k.bits)))) [] K)
    | .shr => cond (decide (b < 0)) none (fin N o rd (.val (.int k (a.fdiv (2 ^ min b.toNat k.bits)))) [] K)
    | .quo => match decide (k = k') with
      | true => cond (b == 0) none (fin N o rd (.val (.int k (k.wrap (a.tdiv b)))) [] K)
      | false => none
    | .rem => match decide (k = k') with
      | true => cond (b == 0) none (fin N o rd (.val (.int k (a.tmod b))) [] K)
      | false => none
    | _ => opVal P N tmps o rd K
  | some (.ptr _ _), some (.val (.pointer none)) => match op, P.underlying t with
    | .eql, some (.pointer _) => fin N o rd (.val (.bool false)) [] K
    | .neq, some (.pointer _) => fin N o rd (.val (.bool true)) [] K
    | _, _ => none
  | some (.val (.string a)), some (.val (.string b)) => match op with
    | .add => cond (decide (((a.size + b.size : Nat) : Int) > 9223372036854775807)) none (fin N o rd (.val (.string (a ++ b))) [] K)
    | _ => opVal P N tmps o rd K
  | some (.val (.agg xs)), some (.val (.agg ys)) => match op, P.eqGuardType P.depth t, eqT P 100 t (.agg xs) (.agg ys) with
    | .eql, false, some r => fin N o rd (.val (.bool r)) [] K
    | .neq, false, some r => fin N o rd (.val (.bool (!r))) [] K
    | _, _, _ => none
  | _, _ => opVal P N tmps o rd K

def opMove (N : Nat) (tmps : List AV) (o : Oper) (rd : Wr) (x : Operand) (K : Wr → Wr → Option β) : Option β :=
  match opd tmps x with
  | some a => fin N o rd a [] K
  | none => none

/-- Maps without addresses. -/
def lookA (P : Program) (t : TypeId) (es : Array MapEntry) (key : Value) (ok : Bool) : Option Value :=
  match P.underlying t with
  | some (.map kt et) => match evalSem P (Instr.checkKey es.isEmpty 10000 kt key), evalSem P (Instr.findKey kt key es.toList), (P.info? et).bind (·.zero) with
    | some (), some (some (_, v)), _ => some (match ok with | true => .tuple #[v, .bool true] | false => v)
    | some (), some none, some z => some (match ok with | true => .tuple #[z, .bool false] | false => z)
    | _, _, _ => none
  | _ => none
def putA (P : Program) (t : TypeId) (es : Array MapEntry) (clock : Nat) (key val : Value) : Option (Array MapEntry × Nat) :=
  match P.underlying t with
  | some (.map kt _) => match evalSem P (Instr.checkKey false 10000 kt key), evalSem P (Instr.findKey kt key es.toList) with
    | some (), some (some (i, _)) => match evalSem P (Instr.keyThatStays (((es[i]?).map (·.key)).getD key) key) with
      | some key' => some (es.modify i fun e => { e with key := key', val }, clock)
      | none => none
    | some (), some none => some (es.push { key, val, born := clock }, clock + 1)
    | _, _ => none
  | _ => none

/-- Maps whose entries stand in whatever order: is a key among them? (All hold the same number.) -/
def permB (P : Program) (kt : TypeId) (key : Value) : List Value → Option Bool
  | [] => some false
  | k :: _ :: r => match eqT P 100 kt key k, permB P kt key r with
    | some b, some q => some (b || q)
    | _, _ => none
  | _ => none
def sameVals (v : Value) : List Value → Bool
  | [] => true
  | _ :: x :: r => match v, x with
    | .int k n, .int k' n' => decide (k = k') && decide (n = n') && sameVals v r
    | _, _ => false
  | _ => false
def okVal (ok : Bool) (v : Value) : Value := match ok with | true => .tuple #[v, .bool true] | false => v
def lookP (P : Program) (t : TypeId) (buf : List Value) (key : Value) : Option (Bool × Value) :=
  match P.underlying t with
  | some (.map kt _) => match P.underlying kt, evalSem P (Instr.checkKey false 10000 kt key), permB P kt key buf, buf with
    | some (.struct _), some (), some b, _ :: v :: _ => match sameVals v buf with
      | true => some (b, v)
      | false => none
    | _, _, _, _ => none
  | _ => none

def opMakeMap (N : Nat) (o : Oper) (rd : Wr) (r : Option Operand) (lo hi : Nat) (K : Wr → Wr → Option β) : Option β :=
  match r, decide (lo < hi) with
  | none, true => fin N o rd (.map lo) [(.blk lo, .obj (.map #[] 0))] K
  | _, _ => none

def opPut (P : Program) (tmps : List AV) (heap : Hp) (o : Oper) (rd : Wr) (t : TypeId) (m x y : Operand) (K : Wr → Wr → Option β) : Option β :=
  match o.dst with
  | some _ => none
  | none => match opd tmps m, opd tmps x, opd tmps y with
    | some (.map b), some (.val k), some (.val v) => match hget heap b with
      | some (.obj (.map es c)) => match putA P t es c k v with
        | some (es', c') => K ((.blk b, .obj (.map es c)) :: rd) [(.blk b, .obj (.map es' c'))]
        | none => none
      | _ => none
    | _, _, _ => none

def opLook (P : Program) (N : Nat) (tmps : List AV) (heap : Hp) (o : Oper) (rd : Wr) (t : TypeId) (m x : Operand) (ok : Bool) (K : Wr → Wr → Option β) : Option β :=
  match opd tmps m, opd tmps x with
  | some (.map b), some (.val k) => match hget heap b with
    | some (.obj (.map es c)) => match lookA P t es k ok with
      | some v => fin N o ((.blk b, .obj (.map es c)) :: rd) (.val v) [] K
      | none => none
    | some (.obj (.chan n buf x1 x2 x3 x4)) => match lookP P t buf.toList k with
      | some (y, v) => cond y (fin N o ((.blk b, .obj (.chan n buf x1 x2 x3 x4)) :: rd) (.val (okVal ok v)) [] K) none
      | none => none
    | _ => none
  | _, _ => none

def hpRd (H : Hp) : Wr := H.map fun p => (.blk p.1, p.2)

/-- math/bits.Add64, which the model reckons itself. -/
def isAdd64 (fn : Func) : Bool := fn.body.isNone && (fn.name == "math/bits.Add64" && fn.origin == "")
def opAdd64 (N : Nat) (o : Oper) (rd : Wr) (fn : Func) (l : List AV) (K : Wr → Wr → Option β) : Option β :=
  match l with
  | [.val (.int .u64 x), .val (.int .u64 y), .val (.int .u64 c)] => match isAdd64 fn with
    | true => bif decide (0 ≤ x) && (decide (0 ≤ y) && (decide (0 ≤ c) && decide (c ≤ 1))) then fin N o rd (.val (.tuple #[.int .u64 ((x + y + c) % 18446744073709551616), .int .u64 ((x + y + c) / 18446744073709551616)])) [] K else none
    | false => none
  | _ => none

def opCall (P : Program) (call : CallR β) (N : Nat) (tmps : List AV) (heap : Hp) (o : Oper) (rd : Wr) (c : Call) (lo hi : Nat) (K : Wr → Wr → Option β) : Option β :=
  match c.callee with
  | .value f => match opd tmps f, opdL tmps c.args.toList with
    | some (.func fid first cap), some args => match P.funcs[fid]? with
      | some fn => match fn.body.isSome && !(fn.name == "runtime.NumGoroutine") with
        | true =>
          let all := (first ++ args) ++ cap
          let H := subheap heap (reach 1000 heap (namesL all) [])
          match noAv H with
          | true => call fid all H lo hi fun r H' T => match covers H' H with
            | true => fin N o (hpRd H ++ rd) r (hpWr (keepH T H')) K
            | false => none
          | false => none
        | false => opAdd64 N o rd fn ((first ++ args) ++ cap) K
      | none => none
    | _, _ => none
  | .builtin .len => match c.args.toList, c.argTypes.toList with
    | [x], t :: _ => match opd tmps x with
      | some (.slice _ _ len _) => match P.underlying t with
        | some (.slice _) => fin N o rd (.val (.int .i64 len)) [] K
        | _ => none
      | _ => opVal P N tmps o rd K
    | _, _ => none
  | .builtin _ => opVal P N tmps o rd K
  | .invoke .. => none

def opBody (P : Program) (call : CallR β) (N : Nat) (tmps : List AV) (heap : Hp) (o : Oper) (rd0 : Wr) (lo hi : Nat) (K : Wr → Wr → Option β) : Option β :=
  let rd := rd0 ++ rdAll tmps o
  match o.op with
  | .move x | .assign x => opMove N tmps o rd x K
  | .pick c x y => opPick N tmps o rd c x y K
  | .nilCheck x => opNil N tmps o rd x K
  | .fieldAddr s x f => opField P N tmps o rd s x f K
  | .indexAddr t x ix => opIndex P N tmps o rd t x ix K
  | .slice t x l h m => match opd tmps x with
    | some (.val (.string s)) => opCut P N tmps o rd t s l h m K
    | some (.val _) => opVal P N tmps o rd K
    | _ => opSlice P N tmps o rd t x l h m K
  | .sliceToArrayPointer t x => opArr P N tmps o rd t x K
  | .load t x => opLoad P N tmps heap o rd t x K
  | .store t x y => opStore P tmps heap o rd t x y K
  | .alloc e => opAlloc P N o rd e lo hi K
  | .box e x => opBox N tmps o rd e x lo hi K
  | .buildSlice t len parts => opBuildSlice P N tmps o rd t len parts lo hi K
  | .makeFunc fn a b => opMakeFunc N tmps o rd fn a b K
  | .extract x ix => opExtract P N tmps o rd x ix K
  | .call c => opCall P call N tmps heap o rd c lo hi K
  | .binOp op t x y _ => opBin P N tmps o rd op t x y K
  | .makeMap _ r => opMakeMap N o rd r lo hi K
  | .mapUpdate t m x y | .insert t m x y => opPut P tmps heap o rd t m x y K
  | .lookup t m x ok => opLook P N tmps heap o rd t m x ok K
  | .index t x ix => opPart P N tmps o rd t x ix K
  | .convert src dst x => opConv P N tmps heap o rd src dst x K
  | .unOp .. | .build .. | .field .. | .makeInterface .. => opVal P N tmps o rd K
  | _ => none

/-- Behind a test what was tested is known. -/
def conc (tmps : List AV) (c : Operand) (b : Bool) : List AV :=
  match c with
  | .tmp t => tmps.set t (.val (.bool b))
  | _ => tmps

/-- What the operation's guard says. -/
def opRun (P : Program) (call : CallR β) (N : Nat) (ops : Array Oper) (tmps : List AV) (heap : Hp) (o : Oper) (lo hi : Nat) (K : List AV → Wr → Wr → Option β) : Option β :=
  match o.guard with
  | none => opBody P call N tmps heap o [] lo hi (K tmps)
  | some (g, want) => match (ops[g]?).bind (·.dst) with
    | none => none
    | some t => match tmps[t]? with
      | some (.val (.bool b)) => match want with
        | true => cond b (opBody P call N (conc tmps (.tmp t) true) heap o [(.tmp t, .av (.val (.bool true)))] lo hi (K (conc tmps (.tmp t) true))) (fin N o [(.tmp t, .av (.val (.bool false)))] (.val undef) [] (K (conc tmps (.tmp t) false)))
        | false => cond b (fin N o [(.tmp t, .av (.val (.bool true)))] (.val undef) [] (K (conc tmps (.tmp t) true))) (opBody P call N (conc tmps (.tmp t) false) heap o [(.tmp t, .av (.val (.bool false)))] lo hi (K (conc tmps (.tmp t) false)))
      | some (.val (.tuple vs)) => fin N o [(.tmp t, .av (.val (.tuple vs)))] (.val undef) [] (K tmps)
      | _ => none

end Go.Ab
namespace Go.Ab
variable {β : Type}

def stU (tmps : List AV) (heap : Hp) : U
  | .tmp t => (tmps[t]?).map .av
  | .blk b => hget heap b

def Good (tmps : List AV) (heap : Hp) (rd : Wr) : Prop := ∀ x ∈ rd, stU tmps heap x.1 = some x.2

theorem good_rdOf (tmps : List AV) (heap : Hp) (x : Operand) : Good tmps heap (rdOf tmps x) := by
  intro p hp
  unfold rdOf at hp
  split at hp
  · split at hp
    · rename_i a h; simp at hp; subst hp; simp [stU, h]
    · cases hp
  · cases hp
theorem good_rdAll (tmps : List AV) (heap : Hp) (o : Oper) : Good tmps heap (rdAll tmps o) := by
  intro p hp
  obtain ⟨x, _, hx⟩ := List.mem_flatMap.1 hp
  exact good_rdOf tmps heap x p hx
theorem Good.append {tmps : List AV} {heap : Hp} {a b : Wr} (h : Good tmps heap a) (k : Good tmps heap b) : Good tmps heap (a ++ b) :=
  fun x hx => (List.mem_append.1 hx).elim (h x) (k x)
theorem Good.cons {tmps : List AV} {heap : Hp} {b : Nat} {c : Con} {rd : Wr} (h : hget heap b = some c) (k : Good tmps heap rd) : Good tmps heap ((.blk b, c) :: rd) :=
  fun x hx => (List.mem_cons.1 hx).elim (fun e => by subst e; exact h) (k x)

/-- What each lemma on an operation says. -/
def Done (P : Program) (N : Nat) (ops : Array Oper) (i : Nat) (tmps : List AV) (heap : Hp) (lo hi : Nat) (K : Wr → Wr → Option β) (res : β) : Prop :=
  ∃ rd wr, K rd wr = some res ∧ Good tmps heap rd ∧ Exec P N ops i rd wr lo hi

def Want (N : Nat) (ops : Array Oper) (o : Oper) (rd : Wr) : Prop :=
  ∀ w0 own σ u a w, Fits N w0 own σ u a w → (∀ x ∈ rd, u x.1 = some x.2) → Region.wanted o (yielded ops a.tmps) = true

section
variable {P : Program} {N : Nat} {ops : Array Oper} {i : Nat} {tmps : List AV} {heap : Hp} {o : Oper} {rd : Wr} {lo hi : Nat} {K : Wr → Wr → Option β} {res : β}

theorem fin_done {r : AV} (ho : ops[i]? = some o) (hw : Want N ops o rd) (hg : Good tmps heap rd) (h : fin N o rd r [] K = some res)
    (hrun : ∀ w0 own σ u a w, Fits N w0 own σ u a w → (∀ x ∈ rd, u x.1 = some x.2) → ∃ x, (execOp a.eval o).run P w = .ok (.value x) w ∧ Rel σ r x) : Done P N ops i tmps heap lo hi K res := by
  obtain ⟨rd', wr, h1, rfl, h2⟩ := fin_quiet (P := P) (lo := lo) (hi := hi) ho h hw hrun
  exact ⟨rd', wr, h1, hg, h2⟩

theorem opVal_done (ho : ops[i]? = some o) (hw : Want N ops o rd) (hg : Good tmps heap rd) (hsub : ∀ p ∈ rdAll tmps o, p ∈ rd) (h : opVal P N tmps o rd K = some res) : Done P N ops i tmps heap lo hi K res := by
  unfold opVal at h
  split at h
  · rename_i hc
    simp only [Bool.and_eq_true] at hc
    split at h
    · rename_i v hv
      refine fin_done ho hw hg h fun w0 own σ u a w hf hr => ⟨v, ?_, by simp [Rel]⟩
      rw [exec_val hf (fun p hp => hr p (hsub p hp)) hc.1 hc.2]
      exact evalSem_run hv w
    · cases h
  · cases h

theorem opMove_done {x : Operand} (hop : o.op = .move x ∨ o.op = .assign x) (ho : ops[i]? = some o) (hw : Want N ops o rd) (hg : Good tmps heap rd) (hsub : ∀ p ∈ rdAll tmps o, p ∈ rd) (h : opMove N tmps o rd x K = some res) : Done P N ops i tmps heap lo hi K res := by
  unfold opMove at h
  split at h
  · rename_i a ha
    refine fin_done ho hw hg h fun w0 own σ u a' w hf hr => ⟨a'.eval x, ?_, ?_⟩
    · rcases hop with e | e <;> simp [execOp, e]
    · refine opd_rel hf (fun p hp => hr p (hsub p ?_)) ha
      refine List.mem_flatMap.2 ⟨x, ?_, hp⟩
      rcases hop with e | e <;> simp [e, Op.operands]
  · cases h

theorem mem_rdAll {x : Operand} (hx : x ∈ o.op.operands) (hsub : ∀ p ∈ rdAll tmps o, p ∈ rd) {u : U} (hr : ∀ p ∈ rd, u p.1 = some p.2) : ∀ p ∈ rdOf tmps x, u p.1 = some p.2 :=
  fun p hp => hr p (hsub p (List.mem_flatMap.2 ⟨x, by simpa using hx, hp⟩))

theorem opNil_done {x : Operand} (hop : o.op = .nilCheck x) (ho : ops[i]? = some o) (hw : Want N ops o rd) (hg : Good tmps heap rd) (hsub : ∀ p ∈ rdAll tmps o, p ∈ rd) (h : opNil N tmps o rd x K = some res) : Done P N ops i tmps heap lo hi K res := by
  have hx : x ∈ o.op.operands := by simp [hop, Op.operands]
  unfold opNil at h
  split at h
  · rename_i b f ha
    refine fin_done ho hw hg h fun w0 own σ u a' w hf hr => ?_
    have := opd_rel hf (mem_rdAll hx hsub hr) ha
    refine ⟨a'.eval x, ?_, this⟩
    simp only [Rel] at this
    obtain ⟨r, _, e⟩ := this
    simp [execOp, hop, e]
  · rename_i f fs cs ha
    refine fin_done ho hw hg h fun w0 own σ u a' w hf hr => ?_
    have := opd_rel hf (mem_rdAll hx hsub hr) ha
    refine ⟨a'.eval x, ?_, this⟩
    simp only [Rel] at this
    obtain ⟨xs, ys, e, _⟩ := this
    simp [execOp, hop, e]
  · cases h

theorem addr_add (r off n : Nat) : (⟨r, off, none⟩ : Addr).add n = ⟨r, off + n, none⟩ := by
  unfold Addr.add
  split
  · simp_all
  · rfl

theorem opField_done {s : TypeId} {x : Operand} {f : Nat} (hop : o.op = .fieldAddr s x f) (ho : ops[i]? = some o) (hw : Want N ops o rd) (hg : Good tmps heap rd) (hsub : ∀ p ∈ rdAll tmps o, p ∈ rd) (h : opField P N tmps o rd s x f K = some res) : Done P N ops i tmps heap lo hi K res := by
  have hx : x ∈ o.op.operands := by simp [hop, Op.operands]
  unfold opField at h
  split at h
  · rename_i b off fs ha hu
    split at h
    · rename_i fd hfd
      split at h
      · rename_i ti hi'
        split at h
        · cases h
        · rename_i hz
          have hz : ¬ ti.size = 0 := of_decide_eq_false hz
          refine fin_done ho hw hg h fun w0 own σ u a' w hf hr => ?_
          have := opd_rel hf (mem_rdAll hx hsub hr) ha
          simp only [Rel] at this
          obtain ⟨r, h1, e⟩ := this
          refine ⟨.pointer (some ⟨r, off + fd.offset, none⟩), ?_, by simp only [Rel]; exact ⟨r, h1, rfl⟩⟩
          simp only [execOp, hop, Instr.fieldAt, Sem.run_bind, run_underlying hu, Result.andThen_ok, hfd, e, Instr.sureAddr, Sem.run_pure, fieldPlace, run_sizeOf hi', if_neg hz, addr_add]
      · cases h
    · cases h
  · cases h

end
end Go.Ab
namespace Go.Ab
variable {β : Type}
section
variable {P : Program} {N : Nat} {ops : Array Oper} {i : Nat} {tmps : List AV} {heap : Hp} {o : Oper} {rd : Wr} {lo hi : Nat} {K : Wr → Wr → Option β} {res : β}

theorem opIndex_done {t : TypeId} {x ix : Operand} (hop : o.op = .indexAddr t x ix) (ho : ops[i]? = some o) (hw : Want N ops o rd) (hg : Good tmps heap rd) (hsub : ∀ p ∈ rdAll tmps o, p ∈ rd) (h : opIndex P N tmps o rd t x ix K = some res) : Done P N ops i tmps heap lo hi K res := by
  have hx : x ∈ o.op.operands := by simp [hop, Op.operands]
  have hix : ix ∈ o.op.operands := by simp [hop, Op.operands]
  unfold opIndex at h
  split at h
  · rename_i b off k n len elem ha hb hu
    split at h
    · rename_i ti hi'
      split at h
      · rename_i hd
        have hd := of_decide_eq_true hd
        refine fin_done ho hw hg h fun w0 own σ u a' w hf hr => ?_
        have h1 := opd_rel hf (mem_rdAll hx hsub hr) ha
        have h2 := opd_rel hf (mem_rdAll hix hsub hr) hb
        simp only [Rel] at h1 h2
        obtain ⟨r, hr1, e⟩ := h1
        refine ⟨.pointer (some ⟨r, off + n.toNat * ti.size, none⟩), ?_, by simp only [Rel]; exact ⟨r, hr1, rfl⟩⟩
        simp only [execOp, hop, Instr.indexAt, h2, asIntOf, Sem.run_bind, run_underlying hu, Result.andThen_ok, e, Instr.sureAddr, Sem.run_pure, Sem.run_ite, if_pos hd, run_sizeOf hi', addr_add]
      · cases h
    · cases h
  · rename_i b off len cap k n elem ha hb hu
    split at h
    · rename_i ti hi'
      split at h
      · rename_i hd
        have hd := of_decide_eq_true hd
        refine fin_done ho hw hg h fun w0 own σ u a' w hf hr => ?_
        have h1 := opd_rel hf (mem_rdAll hx hsub hr) ha
        have h2 := opd_rel hf (mem_rdAll hix hsub hr) hb
        simp only [Rel] at h1 h2
        obtain ⟨r, hr1, e⟩ := h1
        refine ⟨.pointer (some ⟨r, off + n.toNat * ti.size, none⟩), ?_, by simp only [Rel]; exact ⟨r, hr1, rfl⟩⟩
        simp only [execOp, hop, Instr.indexAt, h2, asIntOf, Sem.run_bind, run_underlying hu, Result.andThen_ok, e, Sem.run_pure, Sem.run_ite, if_pos hd, run_sizeOf hi', addr_add]
      · cases h
    · cases h
  · cases h

theorem bdA_run {N : Nat} {w0 : World} {own : Nat → Prop} {σ : Nat → Option Nat} {u : U} {a : Act} {w : World} (hf : Fits N w0 own σ u a w) {x : Operand} {d top n : Nat} {code : BoundsCode}
    (hr : ∀ p ∈ rdOf tmps x, u p.1 = some p.2) (h : bdA tmps (some x) d top = some n) : (Instr.sliceBound (a.eval x) top code).run P w = .ok n w := by
  unfold bdA at h
  simp only at h
  split at h
  · rename_i k m hm
    split at h
    · rename_i hd
      have hd := of_decide_eq_true hd
      cases h
      have h1 := opd_rel hf hr hm
      simp only [Rel] at h1
      simp only [Instr.sliceBound, h1, asIntOf, Sem.run_bind, Sem.run_pure, Result.andThen_ok, Sem.run_ite, if_pos hd]
    · cases h
  · cases h

theorem run_bounds {N : Nat} {w0 : World} {own : Nat → Prop} {σ : Nat → Option Nat} {u : U} {a : Act} {w : World} (hf : Fits N w0 own σ u a w) {isS : Bool} {len cap h l : Nat} {xl xh : Option Operand}
    (hrl : ∀ x, xl = some x → ∀ p ∈ rdOf tmps x, u p.1 = some p.2) (hrh : ∀ x, xh = some x → ∀ p ∈ rdOf tmps x, u p.1 = some p.2)
    (hh : bdA tmps xh len cap = some h) (hl : bdA tmps xl 0 h = some l) : (Instr.sliceBounds isS len cap (xl.map a.eval) (xh.map a.eval) none).run P w = .ok (l, h, cap) w := by
  unfold Instr.sliceBounds
  simp only [pure_bind]
  cases xh with
  | none =>
    simp [bdA] at hh
    subst hh
    cases xl with
    | none => simp [bdA] at hl; subst hl; simp
    | some y =>
      have := bdA_run (P := P) (code := if (none : Option Value).isSome = true then .slice3C else .sliceB) hf (hrl y rfl) hl
      simp only [Option.map_none, Option.map_some, Sem.run_bind]
      rw [this]
      rfl
  | some z =>
    have hz := bdA_run (P := P) (code := if isS = true then .sliceAcap else .sliceAlen) hf (hrh z rfl) hh
    simp only [Option.map_some, Sem.run_bind]
    rw [hz]
    simp only [Result.andThen_ok]
    cases xl with
    | none => simp [bdA] at hl; subst hl; simp
    | some y =>
      have := bdA_run (P := P) (code := if (none : Option Value).isSome = true then .slice3C else .sliceB) hf (hrl y rfl) hl
      simp only [Option.map_some, Sem.run_bind]
      rw [this]
      rfl

theorem opSlice_done {t : TypeId} {x : Operand} {xl xh xm : Option Operand} (hop : o.op = .slice t x xl xh xm) (ho : ops[i]? = some o) (hw : Want N ops o rd) (hg : Good tmps heap rd) (hsub : ∀ p ∈ rdAll tmps o, p ∈ rd) (h : opSlice P N tmps o rd t x xl xh xm K = some res) : Done P N ops i tmps heap lo hi K res := by
  have hx : x ∈ o.op.operands := by simp [hop, Op.operands]
  have hl' : ∀ y, xl = some y → y ∈ o.op.operands := by intro y e; simp [hop, Op.operands, e]
  have hh' : ∀ y, xh = some y → y ∈ o.op.operands := by intro y e; simp [hop, Op.operands, e]
  unfold opSlice at h
  split at h
  · rename_i b off n elem ha hu
    split at h
    · rename_i ti hv hi' hbh
      split at h
      · rename_i lv hbl
        refine fin_done ho hw hg h fun w0 own σ u a' w hf hr => ?_
        have h1 := opd_rel hf (mem_rdAll hx hsub hr) ha
        have hb := run_bounds (P := P) (isS := false) hf (fun y e => mem_rdAll (hl' y e) hsub hr) (fun y e => mem_rdAll (hh' y e) hsub hr) hbh hbl
        simp only [Rel] at h1
        obtain ⟨r, hr1, e⟩ := h1
        refine ⟨.slice (some ⟨r, (match decide (n = lv) with | true => off | false => off + lv * ti.size), none⟩) (hv - lv) (n - lv), ?_, by simp only [Rel]; exact ⟨r, hr1, rfl⟩⟩
        simp only [execOp, hop, Instr.sliceAt, Sem.run_bind, run_underlying hu, Result.andThen_ok, e, Instr.sureAddr, Sem.run_pure, Option.map_none, hb, run_sizeOf hi', addr_add]
        by_cases hnl : n = lv
        · simp [hnl]
        · simp [hnl]
      · cases h
    · cases h
  · rename_i b off len cap elem ha hu
    split at h
    · rename_i ti hv hi' hbh
      split at h
      · rename_i lv hbl
        refine fin_done ho hw hg h fun w0 own σ u a' w hf hr => ?_
        have h1 := opd_rel hf (mem_rdAll hx hsub hr) ha
        have hb := run_bounds (P := P) (isS := true) hf (fun y e => mem_rdAll (hl' y e) hsub hr) (fun y e => mem_rdAll (hh' y e) hsub hr) hbh hbl
        simp only [Rel] at h1
        obtain ⟨r, hr1, e⟩ := h1
        refine ⟨.slice (some ⟨r, (match decide (cap = lv) with | true => off | false => off + lv * ti.size), none⟩) (hv - lv) (cap - lv), ?_, by simp only [Rel]; exact ⟨r, hr1, rfl⟩⟩
        simp only [execOp, hop, Instr.sliceAt, Instr.slice, Sem.run_bind, run_underlying hu, Result.andThen_ok, e, Sem.run_pure, Option.map_none, hb, run_sizeOf hi']
        by_cases hnl : cap = lv
        · simp [hnl]
        · simp [hnl, addr_add]
      · cases h
    · cases h
  · cases h

theorem run_index_string {P : Program} {t : TypeId} {s : ByteArray} {i : Nat} {k : IntKind} (hu : P.underlying t = some .string) (hi : i < s.size) (w : World) : (Instr.index t (.string s) (.int k i)).run P w = .ok (.int .u8 (s.data.toList.getD i 0).toNat) w := by
  have e : (if 0 ≤ (i : Int) then s[(i : Int).toNat]? else none) = some (s.data.toList.getD i 0) := by
    rw [if_pos (by omega), Int.toNat_natCast, getElem?_pos s i hi]
    congr 1
    have hl : i < s.data.toList.length := hi
    rw [List.getD_eq_getElem?_getD, List.getElem?_eq_getElem hl]
    rfl
  simp only [Instr.index, asIntOf, Sem.run_bind, Sem.run_pure, Result.andThen_ok, run_underlying hu, e]
theorem opPart_done {t : TypeId} {x ix : Operand} (hop : o.op = .index t x ix) (ho : ops[i]? = some o) (hw : Want N ops o rd) (hg : Good tmps heap rd) (hsub : ∀ p ∈ rdAll tmps o, p ∈ rd) (h : opPart P N tmps o rd t x ix K = some res) : Done P N ops i tmps heap lo hi K res := by
  have hx : x ∈ o.op.operands := by simp [hop, Op.operands]
  have hy : ix ∈ o.op.operands := by simp [hop, Op.operands]
  unfold opPart at h
  split at h
  · rename_i s k n ha hb hu
    by_cases hb0 : 0 ≤ n ∧ n < (s.size : Int)
    · rw [decide_eq_true hb0, cond_true] at h
      refine fin_done ho hw hg h fun w0 own σ u a' w hf hr => ⟨.int .u8 (s.data.toList.getD n.toNat 0).toNat, ?_, by simp only [Rel]⟩
      have h1 := opd_rel hf (mem_rdAll hx hsub hr) ha
      have h2 := opd_rel hf (mem_rdAll hy hsub hr) hb
      simp only [Rel] at h1 h2
      have e : n = ((n.toNat : Nat) : Int) := by omega
      have hi : n.toNat < s.size := by omega
      have hrun := run_index_string (P := P) (k := k) hu hi w
      rw [← e] at hrun
      simp only [execOp, hop, h1, h2, Sem.run_bind, hrun, Result.andThen_ok, Sem.run_pure]
    · rw [decide_eq_false hb0, cond_false] at h; cases h
  · exact opVal_done ho hw hg hsub h
theorem bdA_of_bdI {tmps : List AV} {x : Option Operand} {d top : Nat} {n : Int} (h : bdI tmps x d = some n) (h0 : 0 ≤ n) (h1 : n ≤ (top : Int)) : bdA tmps x d top = some n.toNat := by
  unfold bdI at h
  unfold bdA
  split at h
  · cases h; simp
  · rename_i y
    split at h
    · cases h
      simp only [h0, h1, and_self, decide_true]
    · cases h
theorem opCut_done {t : TypeId} {x : Operand} {xl xh xm : Option Operand} {s : ByteArray} (hop : o.op = .slice t x xl xh xm) (ho : ops[i]? = some o) (hw : Want N ops o rd) (hg : Good tmps heap rd) (hsub : ∀ p ∈ rdAll tmps o, p ∈ rd) (ha : opd tmps x = some (.val (.string s)))
    (h : opCut P N tmps o rd t s xl xh xm K = some res) : Done P N ops i tmps heap lo hi K res := by
  have hx : x ∈ o.op.operands := by simp [hop, Op.operands]
  have hl' : ∀ y, xl = some y → y ∈ o.op.operands := by intro y e; simp [hop, Op.operands, e]
  have hh' : ∀ y, xh = some y → y ∈ o.op.operands := by intro y e; simp [hop, Op.operands, e]
  unfold opCut at h
  split at h
  · rename_i l hv hu hbl hbh
    by_cases hb0 : 0 ≤ l ∧ l ≤ hv ∧ hv ≤ (s.size : Int)
    · rw [decide_eq_true hb0, cond_true] at h
      refine fin_done ho hw hg h fun w0 own σ u a' w hf hr => ⟨.string (s.extract l.toNat hv.toNat), ?_, by simp only [Rel]⟩
      have h1 := opd_rel hf (mem_rdAll hx hsub hr) ha
      simp only [Rel] at h1
      have e1 := bdA_of_bdI (top := s.size) hbh (by omega) hb0.2.2
      have e2 := bdA_of_bdI (top := hv.toNat) hbl hb0.1 (by omega)
      have hb := run_bounds (P := P) (isS := false) hf (fun y e => mem_rdAll (hl' y e) hsub hr) (fun y e => mem_rdAll (hh' y e) hsub hr) e1 e2
      simp only [execOp, hop, Instr.sliceAt, Instr.slice, Sem.run_bind, run_underlying hu, Result.andThen_ok, h1, Option.map_none, Option.isSome_none, Bool.false_eq_true, if_false, hb, Sem.run_pure]
    · rw [decide_eq_false hb0, cond_false] at h; cases h
  · cases h
theorem bytesA_rel {σ : Nat → Option Nat} : ∀ (cs : List AV) (vs : List Value) (ns : List Int), Rels σ cs vs → bytesA cs = some ns → vs = ns.map (Value.int .u8)
  | [], vs, ns, h, k => by
    simp only [bytesA, Option.some.injEq] at k
    subst k
    simpa [Rels] using h
  | c :: cs, vs, ns, h, k => by
    unfold bytesA at k
    split at k
    · rename_i h0; cases h0
    · rename_i n r h0
      obtain ⟨rfl, rfl⟩ := List.cons.inj h0
      split at k
      · rename_i l hl
        cases k
        simp only [Rels] at h
        obtain ⟨x, xs, rfl, h1, h2⟩ := h
        simp only [Rel] at h1
        rw [h1, bytesA_rel _ xs l h2 hl]
        rfl
      · cases k
    · cases k
theorem opConv_done {src dst : TypeId} {x : Operand} (hop : o.op = .convert src dst x) (ho : ops[i]? = some o) (hw : Want N ops o rd) (hg : Good tmps heap rd) (hsub : ∀ p ∈ rdAll tmps o, p ∈ rd) (h : opConv P N tmps heap o rd src dst x K = some res) : Done P N ops i tmps heap lo hi K res := by
  have hx : x ∈ o.op.operands := by simp [hop, Op.operands]
  unfold opConv at h
  split at h
  · rename_i b off len cap e ha hus hud
    split at h
    · rename_i e' cs hue hh
      split at h
      · rename_i ns hns
        split at h
        · rename_i hlen
          have hlen := Nat.eq_of_beq_eq_true hlen
          refine fin_done ho (fun w0 own σ u a w hf hr => hw w0 own σ u a w hf fun y hy => hr y (List.mem_cons_of_mem _ hy)) (hg.cons hh) h fun w0 own σ u a' w hf hr => ?_
          have h1 := opd_rel hf (mem_rdAll hx (fun p hp => List.mem_cons_of_mem _ (hsub p hp)) hr) ha
          simp only [Rel] at h1
          obtain ⟨rr, hr1, e1⟩ := h1
          obtain ⟨r2, vs, hr2, hheap, hrels⟩ := hf.row b e' cs (hr (.blk b, .row e' cs) (List.mem_cons_self ..))
          rw [hr1] at hr2
          cases hr2
          have hv := bytesA_rel _ _ ns ((hrels.drop off).take len) hns
          have hload := run_loadCells_row (P := P) w rr off len e' (0, 0) vs _ hheap hv (by simpa using hlen)
          refine ⟨.string (ns.foldl pushI ByteArray.empty), ?_, by simp only [Rel]⟩
          simp only [execOp, hop, e1, Sem.run_bind, run_convert_bytes_string w src dst e _ _ _ hus hue hud, run_bytesToString w _ _ _ ns hload, Result.andThen_ok, Sem.run_pure]
          rfl
        · cases h
      · cases h
    · cases h
  · exact opVal_done ho hw hg hsub h

theorem opArr_done {t : TypeId} {x : Operand} (hop : o.op = .sliceToArrayPointer t x) (ho : ops[i]? = some o) (hw : Want N ops o rd) (hg : Good tmps heap rd) (hsub : ∀ p ∈ rdAll tmps o, p ∈ rd) (h : opArr P N tmps o rd t x K = some res) : Done P N ops i tmps heap lo hi K res := by
  have hx : x ∈ o.op.operands := by simp [hop, Op.operands]
  unfold opArr at h
  split at h
  · rename_i b off len cap n elem ha hu
    split at h
    · cases h
    · rename_i hlt
      refine fin_done ho hw hg h fun w0 own σ u a' w hf hr => ?_
      have h1 := opd_rel hf (mem_rdAll hx hsub hr) ha
      simp only [Rel] at h1
      obtain ⟨r, hr1, e⟩ := h1
      have hlt := of_decide_eq_false hlt
      refine ⟨.pointer (some ⟨r, off, none⟩), ?_, by simp only [Rel]; exact ⟨r, hr1, rfl⟩⟩
      simp only [execOp, hop, Instr.arrayAt, Sem.run_bind, run_underlying hu, Result.andThen_ok, e, if_neg hlt, Sem.run_pure]
  · cases h

theorem opPick_done {c x y : Operand} (hop : o.op = .pick c x y) (ho : ops[i]? = some o) (hw : Want N ops o rd) (hg : Good tmps heap rd) (hsub : ∀ p ∈ rdAll tmps o, p ∈ rd) (h : opPick N tmps o rd c x y K = some res) : Done P N ops i tmps heap lo hi K res := by
  have hc : c ∈ o.op.operands := by simp [hop, Op.operands]
  have hx : x ∈ o.op.operands := by simp [hop, Op.operands]
  have hy : y ∈ o.op.operands := by simp [hop, Op.operands]
  unfold opPick at h
  split at h
  · rename_i t p q hc' hx' hy'
    refine fin_done ho hw hg h fun w0 own σ u a' w hf hr => ?_
    have h1 := opd_rel hf (mem_rdAll hc hsub hr) hc'
    have h2 := opd_rel hf (mem_rdAll hx hsub hr) hx'
    have h3 := opd_rel hf (mem_rdAll hy hsub hr) hy'
    simp only [Rel] at h1 h2 h3
    refine ⟨.bool (cond t p q), ?_, by simp only [Rel]⟩
    simp only [execOp, hop, h1, h2, h3, asBool, Sem.run_bind, Sem.run_pure, Result.andThen_ok]
    cases t <;> rfl
  · rename_i t p q _ hc' hx' hy'
    cases t with
    | true =>
      simp only [cond] at h
      refine fin_done ho hw hg h fun w0 own σ u a' w hf hr => ?_
      have h1 := opd_rel hf (mem_rdAll hc hsub hr) hc'
      simp only [Rel] at h1
      refine ⟨a'.eval x, ?_, opd_rel hf (mem_rdAll hx hsub hr) hx'⟩
      simp only [execOp, hop, h1, asBool, Sem.run_bind, Sem.run_pure, Result.andThen_ok, if_true]
    | false =>
      simp only [cond] at h
      refine fin_done ho hw hg h fun w0 own σ u a' w hf hr => ?_
      have h1 := opd_rel hf (mem_rdAll hc hsub hr) hc'
      simp only [Rel] at h1
      refine ⟨a'.eval y, ?_, opd_rel hf (mem_rdAll hy hsub hr) hy'⟩
      simp only [execOp, hop, h1, asBool, Sem.run_bind, Sem.run_pure, Result.andThen_ok, Bool.false_eq_true, if_false]
  · cases h

theorem opLoad_done {t : TypeId} {x : Operand} (hop : o.op = .load t x) (ho : ops[i]? = some o) (hw : Want N ops o rd) (hg : Good tmps heap rd) (hsub : ∀ p ∈ rdAll tmps o, p ∈ rd) (h : opLoad P N tmps heap o rd t x K = some res) : Done P N ops i tmps heap lo hi K res := by
  have hx : x ∈ o.op.operands := by simp [hop, Op.operands]
  unfold opLoad at h
  split at h
  · rename_i b off ha
    split at h
    · rename_i e cs hh
      split at h
      · rename_i r hl
        refine fin_done ho (fun w0 own σ u a w hf hr => hw w0 own σ u a w hf fun y hy => hr y (List.mem_cons_of_mem _ hy)) (hg.cons hh) h fun w0 own σ u a' w hf hr => ?_
        have h1 := opd_rel hf (mem_rdAll hx (fun p hp => List.mem_cons_of_mem _ (hsub p hp)) hr) ha
        simp only [Rel] at h1
        obtain ⟨rr, hr1, e1⟩ := h1
        obtain ⟨r2, vs, hr2, hheap, hrels⟩ := hf.row b e cs (hr (.blk b, .row e cs) (List.mem_cons_self ..))
        rw [hr1] at hr2
        cases hr2
        obtain ⟨v, hv, hrel⟩ := loadA_run hl hheap hrels
        refine ⟨v, ?_, hrel⟩
        simp only [execOp, hop, Instr.loadAt, e1, Instr.sureAddr, Sem.run_bind, Sem.run_pure, Result.andThen_ok, hv]
      · cases h
    · cases h
  · cases h

theorem opStore_done {t : TypeId} {x y : Operand} (hop : o.op = .store t x y) (ho : ops[i]? = some o) (hw : Want N ops o rd) (hg : Good tmps heap rd) (hsub : ∀ p ∈ rdAll tmps o, p ∈ rd) (h : opStore P tmps heap o rd t x y K = some res) : Done P N ops i tmps heap lo hi K res := by
  have hx : x ∈ o.op.operands := by simp [hop, Op.operands]
  have hy : y ∈ o.op.operands := by simp [hop, Op.operands]
  unfold opStore at h
  split at h
  · cases h
  · rename_i hdst
    split at h
    · rename_i b off v ha hv
      split at h
      · rename_i e cs hh
        split at h
        · rename_i cs' hs
          refine ⟨_, _, h, hg.cons hh, exec_of_wp ho (fun w0 own σ u a w hf hr => hw w0 own σ u a w hf fun y hy => hr y (List.mem_cons_of_mem _ hy)) fun Q w0 own σ u a w hf hr hn K' hK => ?_⟩
          have hsub' : ∀ p ∈ rdAll tmps o, p ∈ (Loc.blk b, Con.row e cs) :: rd := fun p hp => List.mem_cons_of_mem _ (hsub p hp)
          have h1 := opd_rel hf (mem_rdAll hx hsub' hr) ha
          have h2 := opd_rel hf (mem_rdAll hy hsub' hr) hv
          simp only [Rel] at h1
          obtain ⟨rr, hr1, e1⟩ := h1
          obtain ⟨r2, vs, hr2, hheap, hrels⟩ := hf.row b e cs (hr (.blk b, .row e cs) (List.mem_cons_self ..))
          rw [hr1] at hr2
          cases hr2
          obtain ⟨vs', hrun, hrels'⟩ := storeA_run hs h2 hheap hrels
          unfold Oper.wp
          simp only [execOp, hop, Instr.storeAt, e1, Instr.sureAddr, Sem.run_bind, Sem.run_pure, Result.andThen_ok, hrun, Oper.upon]
          refine hK σ _ _ (Le.refl σ) (fun _ h _ => h) ?_
          rw [hdst]
          exact hf.setRow hr1 (hr (.blk b, .row e cs) (List.mem_cons_self ..)) hheap hrels'
        · cases h
      · cases h
    · cases h

theorem opAlloc_done {e : TypeId} (hop : o.op = .alloc e) (ho : ops[i]? = some o) (hw : Want N ops o rd) (hg : Good tmps heap rd) (h : opAlloc P N o rd e lo hi K = some res) : Done P N ops i tmps heap lo hi K res := by
  unfold opAlloc at h
  split at h
  · rename_i ti hi' hlt
    have hlt := of_decide_eq_true hlt
    split at h
    · rename_i z hz
      obtain ⟨rd', wr, h1, rfl, h2⟩ := fin_value (P := P) (lo := lo) (hi := hi) ho h hw fun w0 own σ u a w hf hr hn => by
        obtain ⟨h3, h4⟩ := hf.alloc (hn lo (Nat.le_refl _) hlt) (e := e) (Rels.vals (σ := σ) z.cells.toList)
        refine ⟨_, .pointer (some ⟨w.heap.size, 0, none⟩), _, ?_, h4, ?_, h3, ?_⟩
        · simp only [execOp, hop, Instr.alloc, Sem.run_bind, run_zeroValue hi' hz, Result.andThen_ok, newVar, newRow, run_newObj, Sem.run_pure, World.alloc_eq, Array.toArray_toList]
        · intro b hb hb2
          show (if b = lo then _ else σ b) = none
          rw [if_neg (by omega)]; exact hb
        · simp only [Rel]; exact ⟨w.heap.size, by simp, rfl⟩
      exact ⟨rd', wr, h1, hg, h2⟩
    · cases h
  · cases h

theorem opBox_done {e : TypeId} {x : Operand} (hop : o.op = .box e x) (ho : ops[i]? = some o) (hw : Want N ops o rd) (hg : Good tmps heap rd) (hsub : ∀ p ∈ rdAll tmps o, p ∈ rd) (h : opBox N tmps o rd e x lo hi K = some res) : Done P N ops i tmps heap lo hi K res := by
  have hx : x ∈ o.op.operands := by simp [hop, Op.operands]
  unfold opBox at h
  split at h
  · rename_i v hv hlt
    have hlt := of_decide_eq_true hlt
    split at h
    · rename_i cs hcs
      obtain ⟨rd', wr, h1, rfl, h2⟩ := fin_value (P := P) (lo := lo) (hi := hi) ho h hw fun w0 own σ u a w hf hr hn => by
        have hx1 := opd_rel hf (mem_rdAll hx hsub hr) hv
        obtain ⟨h3, h4⟩ := hf.alloc (hn lo (Nat.le_refl _) hlt) (e := e) (cellsOf_rels hx1 hcs)
        refine ⟨_, .pointer (some ⟨w.heap.size, 0, none⟩), _, ?_, h4, ?_, h3, ?_⟩
        · simp only [execOp, hop, Instr.box, Sem.run_bind, Result.andThen_ok, newVar, newRow, run_newObj, Sem.run_pure, World.alloc_eq, Array.toArray_toList]
        · intro b hb hb2
          show (if b = lo then _ else σ b) = none
          rw [if_neg (by omega)]; exact hb
        · simp only [Rel]; exact ⟨w.heap.size, by simp, rfl⟩
      exact ⟨rd', wr, h1, hg, h2⟩
    · cases h
  · cases h

theorem run_equalIn_ptr_nil {t e : TypeId} (hu : P.underlying t = some (.pointer e)) (d : Nat) (ad : Addr) (w : World) : (Op.equalIn (d + 1) t (.pointer (some ad)) (.pointer none)).run P w = .ok false w := by
  simp only [Op.equalIn, Sem.run_bind, run_underlying hu, Result.andThen_ok, Sem.run_pure]

theorem run_bin_ptr_nil {t e : TypeId} (hu : P.underlying t = some (.pointer e)) (ad : Addr) (w : World) : (binOp .eql t (.pointer (some ad)) (.pointer none)).run P w = .ok (.bool false) w ∧ (binOp .neq t (.pointer (some ad)) (.pointer none)).run P w = .ok (.bool true) w := by
  have h : (Op.equal t (.pointer (some ad)) (.pointer none)).run P w = .ok false w := run_equalIn_ptr_nil hu 9999 ad w
  refine ⟨?_, ?_⟩
  · show ((do pure (.bool (← Op.equal t (.pointer (some ad)) (.pointer none)))) : Sem Value).run P w = _
    rw [Sem.run_bind, h]; rfl
  · show ((do pure (.bool (!(← Op.equal t (.pointer (some ad)) (.pointer none))))) : Sem Value).run P w = _
    rw [Sem.run_bind, h]; rfl

theorem opBin_done {op : BinOp} {t ty : TypeId} {x y : Operand} (hop : o.op = .binOp op t x y ty) (ho : ops[i]? = some o) (hw : Want N ops o rd) (hg : Good tmps heap rd) (hsub : ∀ p ∈ rdAll tmps o, p ∈ rd) (h : opBin P N tmps o rd op t x y K = some res) : Done P N ops i tmps heap lo hi K res := by
  have hx : x ∈ o.op.operands := by simp [hop, Op.operands]
  have hy : y ∈ o.op.operands := by simp [hop, Op.operands]
  unfold opBin at h
  split at h
  · rename_i k a k' b ha hb
    have hval : ∀ w0 own σ u a' w, Fits N w0 own σ u a' w → (∀ x ∈ rd, u x.1 = some x.2) → a'.eval x = .int k a ∧ a'.eval y = .int k' b := by
      intro w0 own σ u a' w hf hr
      have h1 := opd_rel hf (mem_rdAll hx hsub hr) ha
      have h2 := opd_rel hf (mem_rdAll hy hsub hr) hb
      simp only [Rel] at h1 h2
      exact ⟨h1, h2⟩
    split at h
    · by_cases hb0 : b < 0
      · simp [hb0] at h
      · simp only [hb0, decide_false, cond_false] at h
        refine fin_done ho hw hg h fun w0 own σ u a' w hf hr => ⟨.int k (k.wrap (a * 2 ^ min b.toNat k.bits)), ?_, by simp only [Rel]⟩
        obtain ⟨h1, h2⟩ := hval w0 own σ u a' w hf hr
        simp only [execOp, hop, h1, h2, eqGuard_at_int, binOp_shl, Op.shift, Sem.run_bind, Sem.run_pure, Result.andThen_ok, if_neg hb0]
    · by_cases hb0 : b < 0
      · simp [hb0] at h
      · simp only [hb0, decide_false, cond_false] at h
        refine fin_done ho hw hg h fun w0 own σ u a' w hf hr => ⟨.int k (a.fdiv (2 ^ min b.toNat k.bits)), ?_, by simp only [Rel]⟩
        obtain ⟨h1, h2⟩ := hval w0 own σ u a' w hf hr
        simp only [execOp, hop, h1, h2, eqGuard_at_int, binOp_shr, Op.shift, Sem.run_bind, Sem.run_pure, Result.andThen_ok, if_neg hb0]
    · split at h
      · rename_i hk
        have hk := of_decide_eq_true hk
        subst hk
        by_cases hb0 : b = 0
        · simp [hb0] at h
        · have : (b == 0) = false := by simpa using hb0
          rw [this, cond_false] at h
          refine fin_done ho hw hg h fun w0 own σ u a' w hf hr => ⟨.int k (k.wrap (a.tdiv b)), ?_, by simp only [Rel]⟩
          obtain ⟨h1, h2⟩ := hval w0 own σ u a' w hf hr
          simp only [execOp, hop, h1, h2, eqGuard_at_int, binOp_quo, Op.intDiv, Sem.run_bind, Sem.run_pure, Result.andThen_ok, if_neg hb0]
      · cases h
    · split at h
      · rename_i hk
        have hk := of_decide_eq_true hk
        subst hk
        by_cases hb0 : b = 0
        · simp [hb0] at h
        · have : (b == 0) = false := by simpa using hb0
          rw [this, cond_false] at h
          refine fin_done ho hw hg h fun w0 own σ u a' w hf hr => ⟨.int k (a.tmod b), ?_, by simp only [Rel]⟩
          obtain ⟨h1, h2⟩ := hval w0 own σ u a' w hf hr
          simp only [execOp, hop, h1, h2, eqGuard_at_int, binOp_rem, Op.intDiv, Sem.run_bind, Sem.run_pure, Result.andThen_ok, if_neg hb0]
      · cases h
    · exact opVal_done ho hw hg hsub h
  · rename_i b off ha hb
    split at h
    · rename_i e hu
      refine fin_done ho hw hg h fun w0 own σ u a' w hf hr => ⟨.bool false, ?_, by simp only [Rel]⟩
      have h1 := opd_rel hf (mem_rdAll hx hsub hr) ha
      have h2 := opd_rel hf (mem_rdAll hy hsub hr) hb
      simp only [Rel] at h1 h2
      obtain ⟨r, _, h1⟩ := h1
      simp only [execOp, hop, h1, h2, eqGuard_at_pointer, Sem.run_bind, Sem.run_pure, Result.andThen_ok, (run_bin_ptr_nil hu _ w).1]
    · rename_i e hu
      refine fin_done ho hw hg h fun w0 own σ u a' w hf hr => ⟨.bool true, ?_, by simp only [Rel]⟩
      have h1 := opd_rel hf (mem_rdAll hx hsub hr) ha
      have h2 := opd_rel hf (mem_rdAll hy hsub hr) hb
      simp only [Rel] at h1 h2
      obtain ⟨r, _, h1⟩ := h1
      simp only [execOp, hop, h1, h2, eqGuard_at_pointer, Sem.run_bind, Sem.run_pure, Result.andThen_ok, (run_bin_ptr_nil hu _ w).2]
    · cases h
  · rename_i a b ha hb
    split at h
    · by_cases hb0 : ((a.size + b.size : Nat) : Int) > 9223372036854775807
      · rw [decide_eq_true hb0, cond_true] at h; cases h
      · rw [decide_eq_false hb0, cond_false] at h
        refine fin_done ho hw hg h fun w0 own σ u a' w hf hr => ⟨.string (a ++ b), ?_, by simp only [Rel]⟩
        have h1 := opd_rel hf (mem_rdAll hx hsub hr) ha
        have h2 := opd_rel hf (mem_rdAll hy hsub hr) hb
        simp only [Rel] at h1 h2
        have hrun := run_string_add_sum (P := P) (w := w) a b (by omega)
        have e0 : Go.binOp .add t (.string a) (.string b) = Op.stringOp .add a b := rfl
        simp only [execOp, hop, h1, h2, eqGuard_at_string, e0, Sem.run_bind, Sem.run_pure, Result.andThen_ok, hrun]
    · exact opVal_done ho hw hg hsub h
  · rename_i xs ys ha hb
    split at h
    · rename_i r hm he
      refine fin_done ho hw hg h fun w0 own σ u a' w hf hr => ⟨.bool r, ?_, by simp only [Rel]⟩
      have h1 := opd_rel hf (mem_rdAll hx hsub hr) ha
      have h2 := opd_rel hf (mem_rdAll hy hsub hr) hb
      simp only [Rel] at h1 h2
      simp only [execOp, hop, h1, h2, Sem.run_bind, Sem.run_pure, Result.andThen_ok, run_eqGuard_agg w .eql t x y xs ys hm, run_eql_struct, run_eqT 100 10000 t _ _ r w (by omega) he]
    · rename_i r hm he
      refine fin_done ho hw hg h fun w0 own σ u a' w hf hr => ⟨.bool (!r), ?_, by simp only [Rel]⟩
      have h1 := opd_rel hf (mem_rdAll hx hsub hr) ha
      have h2 := opd_rel hf (mem_rdAll hy hsub hr) hb
      simp only [Rel] at h1 h2
      simp only [execOp, hop, h1, h2, Sem.run_bind, Sem.run_pure, Result.andThen_ok, run_eqGuard_agg w .neq t x y xs ys hm, run_neq_struct, run_eqT 100 10000 t _ _ r w (by omega) he]
    · cases h
  · exact opVal_done ho hw hg hsub h

end
end Go.Ab
namespace Go.Ab
variable {β : Type}
section
variable {P : Program} {N : Nat} {ops : Array Oper} {i : Nat} {tmps : List AV} {heap : Hp} {o : Oper} {rd : Wr} {lo hi : Nat} {K : Wr → Wr → Option β} {res : β}

theorem sliceCells_run {t : TypeId} {len : Nat} {parts : List (Nat × Value)} {elem : TypeId} {cells : List Value} (h : sliceCells P t len parts = some (elem, cells)) (w : World) :
    (Instr.buildSlice t len (List.toArray parts)).run P w = .ok (.slice (some ⟨w.heap.size, 0, none⟩) len len) (w.alloc (.cells (List.toArray cells) elem)) := by
  unfold sliceCells at h
  split at h
  · rename_i e hu
    split at h
    · rename_i ti hi'
      split at h
      · rename_i z h1 h2 hz
        have h1 := of_decide_eq_false h1
        have h2 := of_decide_eq_false h2
        split at h
        · rename_i cs hcs
          cases h
          unfold Instr.buildSlice
          simp only [Sem.run_bind, run_underlying hu, Result.andThen_ok, run_sizeOf hi', if_neg h1, if_neg h2, Sem.run_pure, run_zeroValue hi' hz, hcs, newRow, run_newObj, World.alloc_eq, Array.toArray_toList]
        · cases h
      · cases h
    · cases h
  · cases h

theorem parts_val {N : Nat} {w0 : World} {own : Nat → Prop} {σ : Nat → Option Nat} {u : U} {a : Act} {w : World} (hf : Fits N w0 own σ u a w) {parts : List (Nat × Operand)}
    (hr : ∀ x ∈ parts.map (·.2), ∀ p ∈ rdOf tmps x, u p.1 = some p.2) (h : (parts.map (·.2)).all (isVal tmps) = true) :
    (parts.map fun p => (p.1, a.eval p.2)) = parts.map fun p => (p.1, valEnv tmps p.2) := by
  apply List.map_congr_left
  intro p hp
  rw [valEnv_eval hf (hr p.2 (List.mem_map.2 ⟨p, hp, rfl⟩)) (List.all_eq_true.1 h p.2 (List.mem_map.2 ⟨p, hp, rfl⟩))]

theorem opBuildSlice_done {t : TypeId} {len : Nat} {parts : Array (Nat × Operand)} (hop : o.op = .buildSlice t len parts) (ho : ops[i]? = some o) (hw : Want N ops o rd) (hg : Good tmps heap rd) (hsub : ∀ p ∈ rdAll tmps o, p ∈ rd) (h : opBuildSlice P N tmps o rd t len parts lo hi K = some res) : Done P N ops i tmps heap lo hi K res := by
  unfold opBuildSlice at h
  split at h
  · rename_i hall hlt
    have hlt := of_decide_eq_true hlt
    split at h
    · rename_i elem cells hc
      obtain ⟨rd', wr, h1, rfl, h2⟩ := fin_value (P := P) (lo := lo) (hi := hi) ho h hw fun w0 own σ u a w hf hr hn => by
        have hmap := parts_val hf (parts := parts.toList) (fun x hx => mem_rdAll (o := o) (by
          simp only [hop, Op.operands]
          simpa using hx) hsub hr) hall
        obtain ⟨h3, h4⟩ := hf.alloc (hn lo (Nat.le_refl _) hlt) (e := elem) (Rels.vals (σ := σ) cells)
        refine ⟨_, .slice (some ⟨w.heap.size, 0, none⟩) len len, _, ?_, h4, ?_, h3, ?_⟩
        · have e1 : (parts.map fun (x : Nat × Operand) => (x.1, a.eval x.2)) = List.toArray (parts.toList.map fun p => (p.1, valEnv tmps p.2)) := by
            rw [← hmap]
            apply Array.toList_inj.1
            simp
          simp only [execOp, hop, Sem.run_bind]
          have e2 := sliceCells_run hc w
          rw [← e1] at e2
          rw [e2]
          rfl
        · intro b hb hb2
          show (if b = lo then _ else σ b) = none
          rw [if_neg (by omega)]; exact hb
        · simp only [Rel]; exact ⟨w.heap.size, by simp, rfl⟩
      exact ⟨rd', wr, h1, hg, h2⟩
    · cases h
  · cases h

theorem opdL_rels {N : Nat} {w0 : World} {own : Nat → Prop} {σ : Nat → Option Nat} {u : U} {a : Act} {w : World} (hf : Fits N w0 own σ u a w) : ∀ {xs : List Operand} {as : List AV},
    (∀ x ∈ xs, ∀ p ∈ rdOf tmps x, u p.1 = some p.2) → opdL tmps xs = some as → Rels σ as (xs.map a.eval)
  | [], as, _, h => by simp [opdL] at h; subst h; simp [Rels]
  | x :: xs, as, hr, h => by
    simp only [opdL] at h
    split at h
    · rename_i b l hb hl
      cases h
      simp only [List.map_cons, Rels]
      exact ⟨_, _, rfl, opd_rel hf (hr x (List.mem_cons_self ..)) hb, opdL_rels hf (fun y hy => hr y (List.mem_cons_of_mem _ hy)) hl⟩
    · cases h

theorem opMakeFunc_done {fn : Fn} {first captured : Array Operand} (hop : o.op = .makeFunc fn first captured) (ho : ops[i]? = some o) (hw : Want N ops o rd) (hg : Good tmps heap rd) (hsub : ∀ p ∈ rdAll tmps o, p ∈ rd) (h : opMakeFunc N tmps o rd fn first captured K = some res) : Done P N ops i tmps heap lo hi K res := by
  unfold opMakeFunc at h
  split at h
  · rename_i f a b ha hb
    refine fin_done ho hw hg h fun w0 own σ u a' w hf hr => ?_
    refine ⟨.func (.func f) (List.toArray (first.toList.map a'.eval)) (List.toArray (captured.toList.map a'.eval)), ?_, ?_⟩
    · simp [execOp, hop, Instr.makeFunc]
      constructor <;> (apply Array.toList_inj.1; simp)
    · simp only [Rel]
      exact ⟨_, _, rfl, opdL_rels hf (fun x hx => mem_rdAll (o := o) (by simp only [hop, Op.operands]; simp at hx; simp [hx]) hsub hr) ha,
        opdL_rels hf (fun x hx => mem_rdAll (o := o) (by simp only [hop, Op.operands]; simp at hx; simp [hx]) hsub hr) hb⟩
  · cases h

theorem opExtract_done {x : Operand} {ix : Nat} (hop : o.op = .extract x ix) (ho : ops[i]? = some o) (hw : Want N ops o rd) (hg : Good tmps heap rd) (hsub : ∀ p ∈ rdAll tmps o, p ∈ rd) (h : opExtract P N tmps o rd x ix K = some res) : Done P N ops i tmps heap lo hi K res := by
  have hx : x ∈ o.op.operands := by simp [hop, Op.operands]
  unfold opExtract at h
  split at h
  · rename_i vs ha
    split at h
    · rename_i a hv
      refine fin_done ho hw hg h fun w0 own σ u a' w hf hr => ?_
      have h1 := opd_rel hf (mem_rdAll hx hsub hr) ha
      simp only [Rel] at h1
      obtain ⟨xs, e, hrels⟩ := h1
      obtain ⟨v, h2, h3⟩ := Rels.get hrels hv
      refine ⟨v, ?_, h3⟩
      simp [execOp, hop, e, Instr.extract, h2]
    · cases h
  · exact opVal_done ho hw hg hsub h

theorem lookA_run {t : TypeId} {es : Array MapEntry} {c r : Nat} {k v : Value} {ok : Bool} (h : lookA P t es k ok = some v) {w : World} (hr : w.heap[r]? = some (.map es c)) : (Instr.lookup t (.map (some r)) k ok).run P w = .ok v w := by
  unfold lookA at h
  split at h
  · rename_i kt et hu
    have hg : (getObj r).run P w = .ok (.map es c) w := by simp [getObj, Sem.run, hr]
    split at h
    · rename_i i v0 hc hf
      cases h
      unfold Instr.lookup
      simp only [Sem.run_bind, run_underlying hu, Result.andThen_ok, hg, Sem.run_pure, evalSem_run hc w, evalSem_run hf w]
      cases ok <;> rfl
    · rename_i z hc hf hz
      cases h
      have hz' : (zeroValue et).run P w = .ok z w := by
        cases hi : P.info? et with
        | none => simp [hi] at hz
        | some ti => simp [hi] at hz; exact run_zeroValue hi hz w
      unfold Instr.lookup
      simp only [Sem.run_bind, run_underlying hu, Result.andThen_ok, hg, Sem.run_pure, evalSem_run hc w, evalSem_run hf w, hz']
      cases ok <;> rfl
    · cases h
  · cases h

theorem permB_spec {kt : TypeId} {key : Value} : ∀ {buf : List Value} {b : Bool}, permB P kt key buf = some b → (∀ p ∈ pairsOf buf, ∃ q, eqT P 100 kt key p.1 = some q) ∧ (b = true → ∃ p ∈ pairsOf buf, eqT P 100 kt key p.1 = some true)
  | [], b, h => by simp only [permB, Option.some.injEq] at h; subst h; exact ⟨fun p hp => by simp [pairsOf] at hp, fun h => by cases h⟩
  | [_], b, h => by simp [permB] at h
  | k :: v :: r, b, h => by
    simp only [permB] at h
    split at h
    · rename_i p q hp hq
      cases h
      obtain ⟨h1, h2⟩ := permB_spec hq
      refine ⟨fun x hx => ?_, fun hb => ?_⟩
      · simp only [pairsOf, List.mem_cons] at hx
        rcases hx with rfl | hx
        · exact ⟨_, hp⟩
        · exact h1 x hx
      · cases p with
        | true => exact ⟨(k, v), by simp [pairsOf], hp⟩
        | false =>
          obtain ⟨x, hx, hx2⟩ := h2 (by simpa using hb)
          exact ⟨x, by simp [pairsOf, hx], hx2⟩
    · cases h
theorem sameVals_spec {v : Value} : ∀ {buf : List Value}, sameVals v buf = true → ∀ p ∈ pairsOf buf, p.2 = v
  | [], _, p, hp => by simp [pairsOf] at hp
  | [_], h, _, _ => by simp [sameVals] at h
  | k :: x :: r, h, p, hp => by
    simp only [sameVals] at h
    split at h
    · rename_i q n q' n'
      simp only [Bool.and_eq_true, decide_eq_true_eq] at h
      obtain ⟨⟨rfl, rfl⟩, h3⟩ := h
      simp only [pairsOf, List.mem_cons] at hp
      rcases hp with rfl | hp
      · rfl
      · exact sameVals_spec h3 p hp
    · cases h
theorem findP_run {kt : TypeId} {key v : Value} (w : World) : ∀ (es : List MapEntry) (i : Nat), (∀ e ∈ es, ∃ q, eqT P 100 kt key e.key = some q) → (∀ e ∈ es, e.val = v) → (∃ e ∈ es, eqT P 100 kt key e.key = some true) →
    ∃ j, (Instr.findAsking kt key es i).run P w = .ok (some (j, v)) w
  | [], i, _, _, h => by obtain ⟨e, he, _⟩ := h; cases he
  | e :: es, i, h1, h2, h3 => by
    obtain ⟨q, hq⟩ := h1 e (by simp)
    have hrun : (Op.equal kt key e.key).run P w = .ok q w := run_eqT 100 10000 kt key e.key q w (by omega) hq
    cases q with
    | true =>
      refine ⟨i, ?_⟩
      simp only [Instr.findAsking, Sem.run_bind, hrun, Result.andThen_ok, if_true, Sem.run_pure, h2 e (by simp)]
    | false =>
      obtain ⟨x, hx, hx2⟩ := h3
      rcases List.mem_cons.1 hx with rfl | hx
      · rw [hq] at hx2; cases hx2
      · obtain ⟨j, hj⟩ := findP_run w es (i + 1) (fun e he => h1 e (by simp [he])) (fun e he => h2 e (by simp [he])) ⟨x, hx, hx2⟩
        refine ⟨j, ?_⟩
        simp only [Instr.findAsking, Sem.run_bind, hrun, Result.andThen_ok, Bool.false_eq_true, if_false, hj]
theorem lookP_run {t : TypeId} {buf : Array Value} {es : Array MapEntry} {c r : Nat} {k v : Value} {ok : Bool} (h : lookP P t buf.toList k = some (true, v)) {w : World} (hr : w.heap[r]? = some (.map es c)) (hp : ∀ p, p ∈ es.toList.map kvOf ↔ p ∈ pairsOf buf.toList) :
    (Instr.lookup t (.map (some r)) k ok).run P w = .ok (okVal ok v) w := by
  unfold lookP at h
  split at h
  · rename_i kt et hu
    split at h
    · rename_i fs b k0 v0 rest hst hc hb hbuf
      split at h
      · rename_i hs
        simp only [Option.some.injEq, Prod.mk.injEq] at h
        obtain ⟨rfl, rfl⟩ := h
        have hmem : ∀ e ∈ es.toList, kvOf e ∈ pairsOf buf.toList := fun e he => (hp _).1 (List.mem_map.2 ⟨e, he, rfl⟩)
        obtain ⟨p1, p2⟩ := permB_spec hb
        obtain ⟨x, hx, hx2⟩ := p2 rfl
        have hx3 := (hp _).2 hx
        obtain ⟨e0, he0, hk0⟩ := List.mem_map.1 hx3
        have q1 : ∀ e ∈ es.toList, ∃ q, eqT P 100 kt k e.key = some q := fun e he => p1 _ (hmem e he)
        have q2 : ∀ e ∈ es.toList, e.val = v0 := fun e he => sameVals_spec hs _ (hmem e he)
        have q3 : ∃ e ∈ es.toList, eqT P 100 kt k e.key = some true := ⟨e0, he0, by rw [← hk0] at hx2; exact hx2⟩
        obtain ⟨j, hj⟩ := findP_run w es.toList 0 q1 q2 q3
        have hg : (getObj r).run P w = .ok (.map es c) w := by simp [getObj, Sem.run, hr]
        have hne : es.isEmpty = false := by
          cases hes : es.isEmpty with
          | false => rfl
          | true =>
            have : es = #[] := by simpa [Array.isEmpty_iff] using hes
            subst this
            cases he0
        have hfk : (Instr.findKey kt k es.toList).run P w = .ok (some (j, v0)) w := by
          unfold Instr.findKey
          simp only [Sem.run_bind, run_underlying hst, Result.andThen_ok]
          cases hl : es.toList with
          | nil => rw [hl] at he0; cases he0
          | cons e es' =>
            have : Instr.findNow (.struct fs) k (e :: es') 0 = none := by simp [Instr.findNow, Instr.sameNow]
            rw [this]
            rw [hl] at hj
            exact hj
        unfold Instr.lookup
        simp only [Sem.run_bind, run_underlying hu, Result.andThen_ok, hg, Sem.run_pure, hne, evalSem_run hc w, hfk]
        cases ok <;> rfl
      · cases h
    · cases h
  · cases h

theorem putA_run {t : TypeId} {es es' : Array MapEntry} {c c' r : Nat} {k v : Value} (h : putA P t es c k v = some (es', c')) {w : World} (hr : w.heap[r]? = some (.map es c)) :
    (Instr.mapUpdate t (.map (some r)) k v).run P w = .ok () { w with heap := w.heap.setIfInBounds r (.map es' c') } := by
  unfold putA at h
  split at h
  · rename_i kt et hu
    have hg : (getObj r).run P w = .ok (.map es c) w := by simp [getObj, Sem.run, hr]
    have hs : ∀ o, (setObj r o).run P w = .ok () { w with heap := w.heap.setIfInBounds r o } := by intro o; simp [setObj, Sem.run, hr]
    split at h
    · rename_i i v0 hc hf
      split at h
      · rename_i key' hk
        cases h
        unfold Instr.mapUpdate
        simp only [Sem.run_bind, run_underlying hu, Result.andThen_ok, hg, evalSem_run hc w, evalSem_run hf w, evalSem_run hk w, hs]
      · cases h
    · rename_i hc hf
      cases h
      unfold Instr.mapUpdate
      simp only [Sem.run_bind, run_underlying hu, Result.andThen_ok, hg, evalSem_run hc w, evalSem_run hf w, hs]
    · cases h
  · cases h

theorem opMakeMap_done {t : TypeId} {r : Option Operand} (hop : o.op = .makeMap t r) (ho : ops[i]? = some o) (hw : Want N ops o rd) (hg : Good tmps heap rd) (h : opMakeMap N o rd r lo hi K = some res) : Done P N ops i tmps heap lo hi K res := by
  unfold opMakeMap at h
  split at h
  · rename_i hlt
    have hlt := of_decide_eq_true hlt
    obtain ⟨rd', wr, h1, rfl, h2⟩ := fin_value (P := P) (lo := lo) (hi := hi) ho h hw fun w0 own σ u a w hf hr hn => by
      obtain ⟨h3, h4⟩ := hf.allocO (hn lo (Nat.le_refl _) hlt) (.map #[] 0) rfl
      refine ⟨_, .map (some w.heap.size), _, ?_, h4, ?_, h3, ?_⟩
      · simp only [execOp, hop, Option.map_none, Instr.makeMap, Sem.run_bind, Result.andThen_ok, run_newObj, Sem.run_pure, World.alloc_eq]
      · intro b hb hb2
        show (if b = lo then _ else σ b) = none
        rw [if_neg (by omega)]; exact hb
      · simp only [Rel]; exact ⟨w.heap.size, by simp, rfl⟩
    exact ⟨rd', wr, h1, hg, h2⟩
  · cases h

theorem opPut_done {t : TypeId} {m x y : Operand} (hop : o.op = .mapUpdate t m x y ∨ o.op = .insert t m x y) (ho : ops[i]? = some o) (hw : Want N ops o rd) (hg : Good tmps heap rd) (hsub : ∀ p ∈ rdAll tmps o, p ∈ rd) (h : opPut P tmps heap o rd t m x y K = some res) : Done P N ops i tmps heap lo hi K res := by
  have hm : m ∈ o.op.operands := by rcases hop with e | e <;> simp [e, Op.operands]
  have hx : x ∈ o.op.operands := by rcases hop with e | e <;> simp [e, Op.operands]
  have hy : y ∈ o.op.operands := by rcases hop with e | e <;> simp [e, Op.operands]
  unfold opPut at h
  split at h
  · cases h
  · rename_i hdst
    split at h
    · rename_i b k v hm' hk' hv'
      split at h
      · rename_i es c hh
        split at h
        · rename_i es' c' hp
          refine ⟨_, _, h, hg.cons hh, exec_of_wp ho (fun w0 own σ u a w hf hr => hw w0 own σ u a w hf fun y hy => hr y (List.mem_cons_of_mem _ hy)) fun Q w0 own σ u a w hf hr hn K' hK => ?_⟩
          have hsub' : ∀ p ∈ rdAll tmps o, p ∈ (Loc.blk b, Con.obj (.map es c)) :: rd := fun p hp => List.mem_cons_of_mem _ (hsub p hp)
          have h1 := opd_rel hf (mem_rdAll hm hsub' hr) hm'
          have h2 := opd_rel hf (mem_rdAll hx hsub' hr) hk'
          have h3 := opd_rel hf (mem_rdAll hy hsub' hr) hv'
          simp only [Rel] at h1 h2 h3
          obtain ⟨rr, hr1, e1⟩ := h1
          have hu := hr (.blk b, .obj (.map es c)) (List.mem_cons_self ..)
          obtain ⟨r2, o2, hr2, hheap, hden⟩ := hf.obj b _ hu
          have hden : o2 = .map es c := hden
          subst hden
          rw [hr1] at hr2
          cases hr2
          have hrun := putA_run hp hheap
          have hexec : (execOp a.eval o).run P w = .ok .skip { w with heap := w.heap.setIfInBounds rr (.map es' c') } := by
            rcases hop with e | e <;> simp only [execOp, e, e1, h2, h3, Sem.run_bind, hrun, Result.andThen_ok, Sem.run_pure]
          unfold Oper.wp
          rw [hexec]
          simp only [Oper.upon]
          refine hK σ _ _ (Le.refl σ) (fun _ h _ => h) ?_
          rw [hdst]
          exact hf.setO hr1 rfl hu
        · cases h
      · cases h
    · cases h

theorem opLook_done {t : TypeId} {m x : Operand} {ok : Bool} (hop : o.op = .lookup t m x ok) (ho : ops[i]? = some o) (hw : Want N ops o rd) (hg : Good tmps heap rd) (hsub : ∀ p ∈ rdAll tmps o, p ∈ rd) (h : opLook P N tmps heap o rd t m x ok K = some res) : Done P N ops i tmps heap lo hi K res := by
  have hm : m ∈ o.op.operands := by simp [hop, Op.operands]
  have hx : x ∈ o.op.operands := by simp [hop, Op.operands]
  unfold opLook at h
  split at h
  · rename_i b k hm' hk'
    split at h
    · rename_i es c hh
      split at h
      · rename_i v hv
        refine fin_done ho (fun w0 own σ u a w hf hr => hw w0 own σ u a w hf fun y hy => hr y (List.mem_cons_of_mem _ hy)) (hg.cons hh) h fun w0 own σ u a' w hf hr => ?_
        have hsub' : ∀ p ∈ rdAll tmps o, p ∈ (Loc.blk b, Con.obj (.map es c)) :: rd := fun p hp => List.mem_cons_of_mem _ (hsub p hp)
        have h1 := opd_rel hf (mem_rdAll hm hsub' hr) hm'
        have h2 := opd_rel hf (mem_rdAll hx hsub' hr) hk'
        simp only [Rel] at h1 h2
        obtain ⟨rr, hr1, e1⟩ := h1
        obtain ⟨r2, o2, hr2, hheap, hden⟩ := hf.obj b _ (hr (.blk b, .obj (.map es c)) (List.mem_cons_self ..))
        have hden : o2 = .map es c := hden
        subst hden
        rw [hr1] at hr2
        cases hr2
        refine ⟨v, ?_, by simp only [Rel]⟩
        simp only [execOp, hop, e1, h2, Sem.run_bind, lookA_run hv hheap, Result.andThen_ok, Sem.run_pure]
      · cases h
    · rename_i n buf x1 x2 x3 x4 hh
      split at h
      · rename_i y v hv
        cases y with
        | false => cases h
        | true =>
          rw [cond_true] at h
          refine fin_done ho (fun w0 own σ u a w hf hr => hw w0 own σ u a w hf fun y hy => hr y (List.mem_cons_of_mem _ hy)) (hg.cons hh) h fun w0 own σ u a' w hf hr => ?_
          have hsub' : ∀ p ∈ rdAll tmps o, p ∈ (Loc.blk b, Con.obj (.chan n buf x1 x2 x3 x4)) :: rd := fun p hp => List.mem_cons_of_mem _ (hsub p hp)
          have h1 := opd_rel hf (mem_rdAll hm hsub' hr) hm'
          have h2 := opd_rel hf (mem_rdAll hx hsub' hr) hk'
          simp only [Rel] at h1 h2
          obtain ⟨rr, hr1, e1⟩ := h1
          obtain ⟨r2, o2, hr2, hheap, hden⟩ := hf.obj b _ (hr (.blk b, .obj (.chan n buf x1 x2 x3 x4)) (List.mem_cons_self ..))
          obtain ⟨es, c, rfl, hperm⟩ := hden
          rw [hr1] at hr2
          cases hr2
          refine ⟨okVal ok v, ?_, by simp only [Rel]⟩
          have hrun := lookP_run (ok := ok) hv hheap hperm
          simp only [execOp, hop, e1, h2, Sem.run_bind, hrun, Result.andThen_ok, Sem.run_pure]
      · cases h
    · cases h
  · cases h

theorem hpRd_mem {H : Hp} {u : U} (h : ∀ p ∈ hpRd H, u p.1 = some p.2) {b : Nat} {c : Con} (hb : hget H b = some c) : u (.blk b) = some c := by
  have : (b, c) ∈ H := by
    clear h
    induction H with
    | nil => simp [hget] at hb
    | cons p H ih =>
      obtain ⟨b', c'⟩ := p
      simp only [hget] at hb
      split at hb
      · rename_i e; cases hb; rw [Nat.eq_of_beq_eq_true e]; simp
      · exact List.mem_cons_of_mem _ (ih hb)
  exact h (.blk b, c) (List.mem_map.2 ⟨(b, c), this, rfl⟩)

theorem good_subheap (l : List Nat) : Good tmps heap (hpRd (subheap heap l)) := by
  induction l with
  | nil => intro x hx; simp [subheap, hpRd] at hx
  | cons b l ih =>
    simp only [subheap]
    split
    · rename_i c hc
      exact Good.cons hc ih
    · exact ih

theorem run_callFunc {f : FuncId} {fn : Func} (hf : P.funcs[f]? = some fn) (h : (fn.body.isSome && !(fn.name == "runtime.NumGoroutine")) = true) (args : Array Value) (w : World) : (callFunc f args).run P w = .ok (.enter f args) w := by
  simp only [Bool.and_eq_true] at h
  obtain ⟨h1, h2⟩ := h
  have h2 : (fn.name == "runtime.NumGoroutine") = false := by simpa using h2
  have h3 : fn.body.isNone = false := by cases hb : fn.body <;> simp_all
  unfold callFunc
  simp only [Sem.run_bind, run_program, Result.andThen_ok, hf, h2, h3, Bool.false_eq_true, if_false, Sem.run_pure]

theorem run_isAdd64 {f : FuncId} {fn : Func} (hf : P.funcs[f]? = some fn) (h : isAdd64 fn = true) {x y c : Int} (hx : 0 ≤ x) (hy : 0 ≤ y) (hc0 : 0 ≤ c) (hc : c ≤ 1) (w : World) :
    (callFunc f #[.int .u64 x, .int .u64 y, .int .u64 c]).run P w = .ok (.value (.tuple #[.int .u64 ((x + y + c) % 18446744073709551616), .int .u64 ((x + y + c) / 18446744073709551616)])) w := by
  simp only [isAdd64, Bool.and_eq_true] at h
  obtain ⟨h1, h2, h3⟩ := h
  have h2 := eq_of_beq h2
  have h3 := eq_of_beq h3
  have e1 : Extern.findNext fn = none := by
    unfold Extern.findNext
    rw [h2, h3]
    kernel_rfl
  have e2 : Extern.find fn = some add64Entry := by
    unfold Extern.find
    rw [h2]
    kernel_rfl
  rw [run_callFunc_extern hf (by rw [h2]; decide) h1 e1 e2, run_add64 x y c hx hy hc0 hc]
  rfl

theorem opCall_done {call : CallR β} (hcall : CallOk P call) {c : Call} (hop : o.op = .call c) (ho : ops[i]? = some o) (hw : Want N ops o rd) (hg : Good tmps heap rd) (hsub : ∀ p ∈ rdAll tmps o, p ∈ rd) (h : opCall P call N tmps heap o rd c lo hi K = some res) : Done P N ops i tmps heap lo hi K res := by
  unfold opCall at h
  split at h
  · rename_i f hc
    split at h
    · rename_i fid first cap args hf' ha
      split at h
      · rename_i fn hfn
        split at h
        · rename_i hb
          simp only at h
          split at h
          · rename_i hno
            obtain ⟨r, H', T, h1, hfacts, hT⟩ := hcall _ _ _ _ _ _ _ h
            split at h1
            · rename_i hcov
              have hg' : Good tmps heap (hpRd (subheap heap (reach 1000 heap (namesL (first ++ args ++ cap)) [])) ++ rd) := (good_subheap _).append hg
              obtain ⟨rd', wr, h2, rfl, h3⟩ := fin_sound (P := P) (lo := lo) (hi := hi) ho h1 (fun w0 own σ u a w hf hr => hw w0 own σ u a w hf fun y hy => hr y (List.mem_append_right _ hy)) fun Q w0 own σ u a w hf hr hn K' hK => by
                have hr1 : ∀ p ∈ rd, u p.1 = some p.2 := fun p hp => hr p (List.mem_append_right _ hp)
                have hr2 : ∀ p ∈ hpRd _, u p.1 = some p.2 := fun p hp => hr p (List.mem_append_left _ hp)
                have hfo : f ∈ o.op.operands := by simp [hop, Op.operands, Call.operands, hc]
                have k1 := opd_rel hf (mem_rdAll hfo hsub hr1) hf'
                simp only [Rel] at k1
                obtain ⟨xs, ys, e1, k2, k3⟩ := k1
                have k4 := opdL_rels hf (xs := c.args.toList) (fun x hx => mem_rdAll (o := o) (by simp only [hop, Op.operands, Call.operands, hc]; simp at hx; simp [hx]) hsub hr1) ha
                have hvals : Rels σ ((first ++ args) ++ cap) ((xs ++ c.args.toList.map a.eval) ++ ys) := Rels.append (Rels.append k2 k4) k3
                have hH : HFits σ (subheap heap (reach 1000 heap (namesL (first ++ args ++ cap)) [])) w := by
                  intro b cc hbb
                  have := hpRd_mem hr2 hbb
                  cases cc with
                  | row e cs => exact hf.row b e cs this
                  | obj ob => exact hf.obj b ob this
                  | av x => trivial
                have hcalls := hfacts σ _ w hf.inj hf.bound hvals hH hn
                have hexec : (execOp a.eval o).run P w = .ok (.enter fid (List.toArray ((xs ++ c.args.toList.map a.eval) ++ ys))) w := by
                  have hargs : (List.toArray xs ++ c.args.map a.eval) ++ List.toArray ys = List.toArray ((xs ++ c.args.toList.map a.eval) ++ ys) := by
                    apply Array.toList_inj.1; simp
                  simp only [execOp, hop, resolve, hc, e1, Deferred.ofValue, Sem.run_bind, Sem.run_pure, Result.andThen_ok, invoke, run_callFunc hfn hb, hargs]
                unfold Oper.wp
                rw [hexec]
                simp only [Oper.upon]
                refine Calls.mono hcalls fun e w' he => ?_
                obtain ⟨σ', v, rfl, p1, p2, p3, p4, p5, p6, p7, p8, p9, p10, p11, p12⟩ := he
                rw [upd_keep fun p hp hTp => hpRd_mem hr2 (hT p hp hTp)] at hK
                exact hK σ' v w' p1 p2 (hf.call (fun b cc hbb => hpRd_mem hr2 hbb) hno hcov p1 p4 p5 p6 p7 p8 p9 p10 p11 p12) p3
              exact ⟨_, wr, h2, hg', h3⟩
            · cases h1
          · cases h
        · rename_i hb
          unfold opAdd64 at h
          split at h
          · rename_i x y c' hall
            split at h
            · rename_i hadd
              cases hcond : (decide (0 ≤ x) && (decide (0 ≤ y) && (decide (0 ≤ c') && decide (c' ≤ 1)))) with
              | false => rw [hcond] at h; cases h
              | true =>
                rw [hcond, cond_true] at h
                simp only [Bool.and_eq_true, decide_eq_true_eq] at hcond
                refine fin_done ho hw hg h fun w0 own σ u a w hf hr => ?_
                have hfo : f ∈ o.op.operands := by simp [hop, Op.operands, Call.operands, hc]
                have k1 := opd_rel hf (mem_rdAll hfo hsub hr) hf'
                simp only [Rel] at k1
                obtain ⟨xs, ys, e1, k2, k3⟩ := k1
                have k4 := opdL_rels hf (xs := c.args.toList) (fun x hx => mem_rdAll (o := o) (by simp only [hop, Op.operands, Call.operands, hc]; simp at hx; simp [hx]) hsub hr) ha
                have hvals : Rels σ ((first ++ args) ++ cap) ((xs ++ c.args.toList.map a.eval) ++ ys) := Rels.append (Rels.append k2 k4) k3
                rw [hall] at hvals
                have hl : (xs ++ c.args.toList.map a.eval) ++ ys = [.int .u64 x, .int .u64 y, .int .u64 c'] := by
                  generalize (xs ++ c.args.toList.map a.eval) ++ ys = L at hvals
                  simp only [Rels] at hvals
                  obtain ⟨v1, L1, rfl, r1, v2, L2, rfl, r2, v3, L3, rfl, r3, rfl⟩ := hvals
                  simp only [Rel] at r1 r2 r3
                  rw [r1, r2, r3]
                refine ⟨.tuple #[.int .u64 ((x + y + c') % 18446744073709551616), .int .u64 ((x + y + c') / 18446744073709551616)], ?_, by simp only [Rel]⟩
                have hargs : (List.toArray xs ++ c.args.map a.eval) ++ List.toArray ys = #[.int .u64 x, .int .u64 y, .int .u64 c'] := by
                  apply Array.toList_inj.1; simpa using hl
                simp only [execOp, hop, resolve, hc, e1, Deferred.ofValue, Sem.run_bind, Sem.run_pure, Result.andThen_ok, invoke, hargs, run_isAdd64 hfn hadd hcond.1 hcond.2.1 hcond.2.2.1 hcond.2.2.2]
            · cases h
          · cases h
      · cases h
    · cases h
  · rename_i hc
    split at h
    · rename_i x t ts hx hat
      split at h
      · rename_i b off len cap ha
        split at h
        · rename_i e hu
          refine fin_done ho hw hg h fun w0 own σ u a w hf hr => ?_
          have hxm : x ∈ c.args := by
            have : x ∈ c.args.toList := by rw [hx]; simp
            simpa using this
          have h1 := opd_rel hf (mem_rdAll (x := x) (by simp only [hop, Op.operands, Call.operands, hc]; simp [hxm]) hsub hr) ha
          simp only [Rel] at h1
          obtain ⟨r, _, e1⟩ := h1
          refine ⟨.int .i64 len, ?_, by simp only [Rel]⟩
          have hargs : c.args = #[x] := by apply Array.toList_inj.1; rw [hx]
          have hat' : c.argTypes[0]? = some t := by rw [← Array.getElem?_toList, hat]; rfl
          simp [execOp, hop, resolve, hc, invoke, builtin, hargs, Builtin.len_, hat', run_underlying hu, e1, goInt]
        · cases h
      · exact opVal_done ho hw hg hsub h
    · cases h
  · exact opVal_done ho hw hg hsub h
  · cases h

end
end Go.Ab
namespace Go.Ab
variable {β : Type}
section
variable {P : Program} {N : Nat} {ops : Array Oper} {i : Nat} {tmps : List AV} {heap : Hp} {o : Oper} {lo hi : Nat} {K : Wr → Wr → Option β} {res : β}

theorem Want.append {rd rd' : Wr} (h : Want N ops o rd) : Want N ops o (rd ++ rd') :=
  fun w0 own σ u a w hf hr => h w0 own σ u a w hf fun x hx => hr x (List.mem_append_left _ hx)

theorem opBody_done {call : CallR β} (hcall : CallOk P call) {rd0 : Wr} (ho : ops[i]? = some o) (hw0 : Want N ops o rd0) (hg0 : Good tmps heap rd0) (h : opBody P call N tmps heap o rd0 lo hi K = some res) : Done P N ops i tmps heap lo hi K res := by
  have hw : Want N ops o (rd0 ++ rdAll tmps o) := hw0.append
  have hg : Good tmps heap (rd0 ++ rdAll tmps o) := hg0.append (good_rdAll tmps heap o)
  have hsub : ∀ p ∈ rdAll tmps o, p ∈ rd0 ++ rdAll tmps o := fun p hp => List.mem_append_right _ hp
  unfold opBody at h
  simp only at h
  split at h
  · rename_i x e; exact opMove_done (.inl e) ho hw hg hsub h
  · rename_i x e; exact opMove_done (.inr e) ho hw hg hsub h
  · rename_i c x y e; exact opPick_done e ho hw hg hsub h
  · rename_i x e; exact opNil_done e ho hw hg hsub h
  · rename_i s x f e; exact opField_done e ho hw hg hsub h
  · rename_i t x ix e; exact opIndex_done e ho hw hg hsub h
  · rename_i t x l hh m e
    split at h
    · rename_i hs; exact opCut_done e ho hw hg hsub hs h
    · exact opVal_done ho hw hg hsub h
    · exact opSlice_done e ho hw hg hsub h
  · rename_i t x e; exact opArr_done e ho hw hg hsub h
  · rename_i t x e; exact opLoad_done e ho hw hg hsub h
  · rename_i t x y e; exact opStore_done e ho hw hg hsub h
  · rename_i t e; exact opAlloc_done e ho hw hg h
  · rename_i t x e; exact opBox_done e ho hw hg hsub h
  · rename_i t len parts e; exact opBuildSlice_done e ho hw hg hsub h
  · rename_i fn a b e; exact opMakeFunc_done e ho hw hg hsub h
  · rename_i x ix e; exact opExtract_done e ho hw hg hsub h
  · rename_i c e; exact opCall_done hcall e ho hw hg hsub h
  · rename_i op t x y ty e; exact opBin_done e ho hw hg hsub h
  · rename_i t r e; exact opMakeMap_done e ho hw hg h
  · rename_i t m x y e; exact opPut_done (.inl e) ho hw hg hsub h
  · rename_i t m x y e; exact opPut_done (.inr e) ho hw hg hsub h
  · rename_i t m x ok e; exact opLook_done e ho hw hg hsub h
  · rename_i t x ix e; exact opPart_done e ho hw hg hsub h
  · rename_i src dst x e; exact opConv_done e ho hw hg hsub h
  all_goals first | exact opVal_done ho hw hg hsub h | cases h

theorem wanted_none {o : Oper} (h : o.guard = none) (rd : Wr) : Want N ops o rd := fun _ _ _ _ _ _ _ _ => by simp [Region.wanted, h]

theorem yielded_of {a : Act} {g t : Nat} {x : Value} (hd : (ops[g]?).bind (·.dst) = some t) (h : a.tmps[t]? = some x) : yielded ops a.tmps g = match x with | .bool b => some b | _ => none := by
  unfold yielded
  rw [hd]
  simp only [Option.bind_some, h]
  cases x <;> rfl

/-- The operation isn't wanted: its temporary is left undefined. -/
theorem skip_done {rd : Wr} (ho : ops[i]? = some o) (hg : Good tmps heap rd) (hno : ∀ w0 own σ u a w, Fits N w0 own σ u a w → (∀ x ∈ rd, u x.1 = some x.2) → Region.wanted o (yielded ops a.tmps) = false)
    (h : fin N o rd (.val undef) [] K = some res) : Done P N ops i tmps heap lo hi K res := by
  unfold fin at h
  split at h
  · rename_i d hd
    split at h
    · rename_i hlt
      refine ⟨rd, _, h, hg, fun Q w0 own σ u a w hf hr hn K' hK => ?_⟩
      unfold wpOp
      rw [ho]
      simp only
      rw [if_neg (by rw [hno w0 own σ u a w hf hr]; simp)]
      refine hK σ _ w (Le.refl σ) (fun _ h _ => h) ?_
      rw [hd]
      exact hf.put (of_decide_eq_true hlt) (by simp [Rel])
    · cases h
  · rename_i hd
    refine ⟨rd, _, h, hg, fun Q w0 own σ u a w hf hr hn K' hK => ?_⟩
    unfold wpOp
    rw [ho]
    simp only
    rw [if_neg (by rw [hno w0 own σ u a w hf hr]; simp)]
    refine hK σ _ w (Le.refl σ) (fun _ h _ => h) ?_
    rw [hd]
    exact hf

theorem conc_self {c : Operand} {b : Bool} (h : opd tmps c = some (.val (.bool b))) : conc tmps c b = tmps := by
  cases c with
  | tmp t =>
    simp only [opd] at h
    simp only [conc]
    apply List.ext_getElem?
    intro k
    by_cases e : t = k
    · subst e
      have hlt := (List.getElem?_eq_some_iff.1 h).1
      rw [h]
      simp [hlt]
    · rw [List.getElem?_set_ne e]
  | _ => rfl

theorem opRun_done {call : CallR β} {K : List AV → Wr → Wr → Option β} (hcall : CallOk P call) (ho : ops[i]? = some o) (h : opRun P call N ops tmps heap o lo hi K = some res) : Done P N ops i tmps heap lo hi (K tmps) res := by
  unfold opRun at h
  split at h
  · rename_i hgd
    exact opBody_done hcall ho (wanted_none hgd []) (fun x hx => by cases hx) h
  · rename_i g want hgd
    split at h
    · cases h
    · rename_i t hd
      split at h
      · rename_i b hb
        have hgood : Good tmps heap [(.tmp t, .av (.val (.bool b)))] := by
          intro x hx; simp at hx; subst hx; simp [stU, hb]
        have hy : ∀ (w0 : World) (own : Nat → Prop) (σ : Nat → Option Nat) (u : U) (a : Act) (w : World), Fits N w0 own σ u a w → (∀ x ∈ [((Loc.tmp t, Con.av (.val (.bool b))) : Loc × Con)], u x.1 = some x.2) → yielded ops a.tmps g = some b := by
          intro w0 own σ u a w hf hr
          obtain ⟨x, h1, h2⟩ := hf.tmp t _ (hr _ (List.mem_singleton.2 rfl))
          simp only [Rel] at h2
          subst h2
          rw [yielded_of hd h1]
        have yes : want = b → Want N ops o [(.tmp t, .av (.val (.bool b)))] := by
          intro e w0 own σ u a w hf hr
          simp only [Region.wanted, hgd, hy w0 own σ u a w hf hr, e]
          simp
        have no : want ≠ b → ∀ (w0 : World) (own : Nat → Prop) (σ : Nat → Option Nat) (u : U) (a : Act) (w : World), Fits N w0 own σ u a w → (∀ x ∈ [((Loc.tmp t, Con.av (.val (.bool b))) : Loc × Con)], u x.1 = some x.2) → Region.wanted o (yielded ops a.tmps) = false := by
          intro e w0 own σ u a w hf hr
          simp only [Region.wanted, hgd, hy w0 own σ u a w hf hr]
          simpa using fun h => e h.symm
        split at h
        · cases b with
          | true => rw [cond_true, conc_self (c := .tmp t) hb] at h; exact opBody_done hcall ho (yes rfl) hgood h
          | false => rw [cond_false, conc_self (c := .tmp t) hb] at h; exact skip_done ho hgood (no (by simp)) h
        · cases b with
          | true => rw [cond_true, conc_self (c := .tmp t) hb] at h; exact skip_done ho hgood (no (by simp)) h
          | false => rw [cond_false, conc_self (c := .tmp t) hb] at h; exact opBody_done hcall ho (yes rfl) hgood h
      · rename_i vs hb
        have hgood : Good tmps heap [(.tmp t, .av (.val (.tuple vs)))] := by
          intro x hx; simp at hx; subst hx; simp [stU, hb]
        refine skip_done ho hgood (fun w0 own σ u a w hf hr => ?_) h
        obtain ⟨x, h1, h2⟩ := hf.tmp t _ (hr _ (List.mem_singleton.2 rfl))
        simp only [Rel] at h2
        subst h2
        simp only [Region.wanted, hgd, yielded_of hd h1]
        simp
      · cases h
end

/-! ### regions -/
structure St where
  tmps : List AV
  heap : Hp
  lo : Nat
  hi : Nat
  step : Nat
  log : List Loc

def St.u (s : St) : U := stU s.tmps s.heap

def wr1 (tmps : List AV) (heap : Hp) : Loc × Con → List AV × Hp
  | (.tmp t, .av a) => (tmps.set t a, heap)
  | (.tmp _, _) => ([], heap)
  | (.blk b, c) => (tmps, put heap b c)
where put : Hp → Nat → Con → Hp
  | [], b, c => [(b, c)]
  | (b', c') :: r, b, c => match Nat.beq b' b with
    | true => (b, c) :: r
    | false => (b', c') :: put r b c

/-- The last of the list first: the first stands in the end. -/
def wrAll (tmps : List AV) (heap : Hp) : Wr → List AV × Hp
  | [] => (tmps, heap)
  | x :: r => let q := wrAll tmps heap r; wr1 q.1 q.2 x

theorem hget_put (heap : Hp) (b b' : Nat) (c : Con) : hget (wr1.put heap b c) b' = if b' = b then some c else hget heap b' := by
  induction heap with
  | nil =>
    simp only [wr1.put, hget]
    by_cases e : b' = b
    · subst e; simp
    · have : Nat.beq b b' = false := by
        cases hb : Nat.beq b b' with
        | false => rfl
        | true => exact absurd (Nat.eq_of_beq_eq_true hb).symm e
      simp [this, e]
  | cons p heap ih =>
    obtain ⟨x, cx⟩ := p
    simp only [wr1.put]
    split
    · rename_i e
      have e := Nat.eq_of_beq_eq_true e
      subst e
      simp only [hget]
      by_cases e2 : b' = x
      · subst e2; simp
      · have : Nat.beq x b' = false := by
          cases hb : Nat.beq x b' with
          | false => rfl
          | true => exact absurd (Nat.eq_of_beq_eq_true hb).symm e2
        simp [this, e2]
    · rename_i e
      simp only [hget, ih]
      split
      · rename_i e2
        have e2 := Nat.eq_of_beq_eq_true e2
        subst e2
        rw [if_neg]
        intro e3
        rw [e3] at e
        simp at e
      · rfl

theorem wr1_sub (tmps : List AV) (heap : Hp) (x : Loc × Con) : Sub (stU (wr1 tmps heap x).1 (wr1 tmps heap x).2) (upd1 (stU tmps heap) x.1 x.2) := by
  obtain ⟨l, c⟩ := x
  intro l' c' h
  cases l with
  | tmp t =>
    cases c with
    | av a =>
      simp only [wr1] at h
      cases l' with
      | tmp t' =>
        simp only [stU, upd1] at h ⊢
        by_cases e : t' = t
        · subst e
          rcases Nat.lt_or_ge t' tmps.length with hl | hl
          · simp [hl] at h; simp [h]
          · simp [List.getElem?_eq_none (show (tmps.set t' a).length ≤ t' by simpa using hl)] at h
        · rw [List.getElem?_set_ne (Ne.symm e)] at h
          simp [e, h]
      | blk b => simpa [stU, upd1] using h
    | row e cs =>
      simp only [wr1] at h
      cases l' with
      | tmp t' => simp [stU] at h
      | blk b => simpa [stU, upd1] using h
    | obj ob =>
      simp only [wr1] at h
      cases l' with
      | tmp t' => simp [stU] at h
      | blk b => simpa [stU, upd1] using h
  | blk b =>
    simp only [wr1] at h
    cases l' with
    | tmp t' => simpa [stU, upd1] using h
    | blk b' =>
      simp only [stU, upd1, hget_put] at h ⊢
      simpa using h

end Go.Ab
namespace Go.Ab
variable {β : Type}

structure It where
  i : Nat
  rd : Wr
  wr : Wr
  lo : Nat
  hi : Nat

def Chain (P : Program) (N : Nat) (ops : Array Oper) : List It → U → U → Prop
  | [], u, u' => u' = u
  | it :: r, u, u' => (∀ x ∈ it.rd, u x.1 = some x.2) ∧ Exec P N ops it.i it.rd it.wr it.lo it.hi ∧ Chain P N ops r (upd u it.wr) u'

def Fresh (items : List It) (σ : Nat → Option Nat) : Prop := ∀ it ∈ items, ∀ b, it.lo ≤ b → b < it.hi → σ b = none
def Out (items : List It) (σ σ' : Nat → Option Nat) : Prop := ∀ b, σ b = none → (∀ it ∈ items, b < it.lo ∨ it.hi ≤ b) → σ' b = none
/-- The names of two items are apart. -/
def Apart (a b : It) : Prop := a.hi ≤ b.lo ∨ b.hi ≤ a.lo

section
variable {P : Program} {N : Nat} {ops : Array Oper} {Q : Exit → Act → World → Prop} {w0 : World} {own : Nat → Prop}

theorem chain_seq : ∀ (items : List It) (u u' : U) (σ : Nat → Option Nat) (a : Act) (w : World), Chain P N ops items u u' → Fits N w0 own σ u a w → Fresh items σ → items.Pairwise Apart →
    (∀ σ' a' w', Le σ σ' → Out items σ σ' → Fits N w0 own σ' u' a' w' → Q .normal a' w') → wpOps P ops Q (items.map (·.i)) a w
  | [], u, u', σ, a, w, hc, hf, _, _, hQ => by
    simp only [Chain] at hc
    subst hc
    exact hQ σ a w (Le.refl σ) (fun _ h _ => h) hf
  | it :: r, u, u', σ, a, w, hc, hf, hn, hp, hQ => by
    obtain ⟨h1, h2, h3⟩ := hc
    simp only [List.map_cons, wpOps_cons]
    rw [List.pairwise_cons] at hp
    refine h2 Q w0 own σ u a w hf h1 (hn it (List.mem_cons_self ..)) _ fun σ' a' w' hle hout hf' => ?_
    refine chain_seq r _ u' σ' a' w' h3 hf' (fun x hx b hb1 hb2 => ?_) hp.2 fun σ'' a'' w'' hle' hout' hf'' => ?_
    · refine hout b (hn x (List.mem_cons_of_mem _ hx) b hb1 hb2) ?_
      rcases hp.1 x hx with h | h <;> omega
    · refine hQ σ'' a'' w'' (hle.trans hle') (fun b hb hb' => ?_) hf''
      exact hout' b (hout b hb (hb' it (List.mem_cons_self ..))) fun x hx => hb' x (List.mem_cons_of_mem _ hx)

/-- Two items that touch nothing in common that either writes. -/
def Indep (a b : It) : Prop :=
  (∀ p ∈ a.wr, ∀ q ∈ b.rd, p.1 ≠ q.1) ∧ (∀ p ∈ a.wr, ∀ q ∈ b.wr, p.1 ≠ q.1) ∧ (∀ p ∈ a.rd, ∀ q ∈ b.wr, p.1 ≠ q.1)

/-- What is laid over, apart from all that a chain touches, may be laid first. -/
theorem Chain.over {wr : Wr} : ∀ {items : List It} {u u' : U}, Chain P N ops items u u' → (∀ it ∈ items, (∀ p ∈ wr, ∀ q ∈ it.rd, q.1 ≠ p.1) ∧ (∀ p ∈ wr, ∀ q ∈ it.wr, q.1 ≠ p.1)) →
    Chain P N ops items (upd u wr) (upd u' wr)
  | [], u, u', h, _ => by simp only [Chain] at h ⊢; rw [h]
  | it :: r, u, u', h, hd => by
    obtain ⟨h1, h2, h3⟩ := h
    have hd0 := hd it (List.mem_cons_self ..)
    refine ⟨fun x hx => ?_, h2, ?_⟩
    · rw [upd_none _ _ _ fun p hp e => hd0.1 p hp x hx e.symm]
      exact h1 x hx
    · rw [upd_comm u wr it.wr fun p hp q hq e => hd0.2 p hp q hq e.symm]
      exact Chain.over h3 fun x hx => hd x (List.mem_cons_of_mem _ hx)

theorem Chain.append : ∀ {a b : List It} {u v w : U}, Chain P N ops a u v → Chain P N ops b v w → Chain P N ops (a ++ b) u w
  | [], _, _, _, _, h, k => by simp only [Chain] at h; subst h; exact k
  | _ :: _, _, _, _, _, h, k => ⟨h.1, h.2.1, Chain.append h.2.2 k⟩
theorem Chain.split : ∀ {a b : List It} {u w : U}, Chain P N ops (a ++ b) u w → ∃ v, Chain P N ops a u v ∧ Chain P N ops b v w
  | [], _, u, _, h => ⟨u, rfl, h⟩
  | _ :: _, _, _, _, h => by
    obtain ⟨v, h1, h2⟩ := Chain.split h.2.2
    exact ⟨v, ⟨h.1, h.2.1, h1⟩, h2⟩

/-- What a chain doesn't write stays. -/
theorem Chain.stays : ∀ {items : List It} {u u' : U} {l : Loc}, Chain P N ops items u u' → (∀ it ∈ items, ∀ p ∈ it.wr, p.1 ≠ l) → u' l = u l
  | [], u, u', l, h, _ => by simp only [Chain] at h; rw [h]
  | it :: r, u, u', l, h, hd => by
    rw [Chain.stays h.2.2 fun x hx => hd x (List.mem_cons_of_mem _ hx), upd_none _ _ _ (hd it (List.mem_cons_self ..))]

/-- The item in the midst, apart from all ahead of it, comes first. -/
theorem Chain.first {pre post : List It} {it : It} {u u' : U} (h : Chain P N ops (pre ++ it :: post) u u') (hi : ∀ p ∈ pre, Indep p it) : Chain P N ops (it :: (pre ++ post)) u u' := by
  obtain ⟨v, h1, h2, h3, h4⟩ := Chain.split h
  refine ⟨fun x hx => ?_, h3, ?_⟩
  · rw [← Chain.stays h1 fun p hp q hq => (hi p hp).1 q hq x hx]
    exact h2 x hx
  · refine Chain.append (Chain.over h1 fun p hp => ⟨fun q hq r hr => (hi p hp).2.2 r hr q hq, fun q hq r hr => (hi p hp).2.1 r hr q hq⟩) h4

/-- Whoever is listed, those that he waits for are. -/
def Closed (ops : Array Oper) (ls : Array Bool) : Prop := ∀ (j : Nat) (o : Oper), ops[j]? = some o → ls.getD j false = true → ∀ e ∈ o.after, Region.binds .any e = true → ls.getD e.on false = true

theorem Closed.set {ops : Array Oper} {ls : Array Bool} (h : Closed ops ls) {i : Nat} (hi : i ∈ Region.ready .any ops ls) : Closed ops (ls.setIfInBounds i true) := by
  obtain ⟨_, o0, h2, h3⟩ := mem_ready.1 hi
  intro j o ho hj e he hb
  by_cases e1 : i = j
  · subst e1
    rw [ho] at h2
    cases h2
    exact getD_set_true (h3 e he hb)
  · rw [getD_set_ne false e1] at hj
    exact getD_set_true (h j o ho hj e he hb)

/-- Whatever order the edges allow. 'Ready' tells of each item that may come up that those ahead of it are apart from it. -/
theorem chain_any : ∀ (n : Nat) (items : List It) (listed : Array Bool) (u u' : U) (σ : Nat → Option Nat) (a : Act) (w : World), items.length = n → Chain P N ops items u u' → Fits N w0 own σ u a w → Fresh items σ → items.Pairwise Apart →
    listed.size = ops.size → (∀ j, j < ops.size → (listed.getD j true = false ↔ ∃ it ∈ items, it.i = j)) → (∀ it ∈ items, it.i < ops.size) → (items.map (·.i)).Nodup →
    Closed ops listed → (∀ (pre post : List It) (it : It) (ls : Array Bool), Closed ops ls → (pre ++ it :: post).Sublist items →
      it.i ∈ Region.ready .any ops ls → (∀ p ∈ pre, ls.getD p.i true = false) → ∀ p ∈ pre, Indep p it) →
    (∀ (ls : Array Bool) (l : List It), ls.size = ops.size → l.Sublist items → l ≠ [] → (∀ j, j < ops.size → (ls.getD j true = false ↔ ∃ it ∈ l, it.i = j)) → Region.ready .any ops ls ≠ []) →
    (∀ σ' a' w', Le σ σ' → Out items σ σ' → Fits N w0 own σ' u' a' w' → Q .normal a' w') → wpAny P .any ops Q n listed a w
  | 0, items, listed, u, u', σ, a, w, hl, hc, hf, _, _, hls, hli, _, _, _, _, _, hQ => by
    have : items = [] := List.eq_nil_of_length_eq_zero hl
    subst this
    simp only [Chain] at hc
    subst hc
    refine ⟨?_, hQ σ a w (Le.refl σ) (fun _ h _ => h) hf⟩
    cases hr : Region.ready .any ops listed with
    | nil => rfl
    | cons x xs =>
      have hx : x ∈ Region.ready .any ops listed := by rw [hr]; simp
      obtain ⟨h1, o, h2, _⟩ := mem_ready.1 hx
      have hlt : x < ops.size := (Array.getElem?_eq_some_iff.1 h2).1
      obtain ⟨it, h3, _⟩ := (hli x hlt).1 h1
      cases h3
  | n + 1, items, listed, u, u', σ, a, w, hl, hc, hf, hn, hp, hls, hli, hlt, hnd, hcl, hind, hne, hQ => by
    refine ⟨fun h0 => absurd h0 (hne listed items hls (List.Sublist.refl _) (by intro e; subst e; cases hl) hli), fun j hj => ?_⟩
    obtain ⟨h1, o, h2, _⟩ := mem_ready.1 hj
    have hjlt : j < ops.size := (Array.getElem?_eq_some_iff.1 h2).1
    obtain ⟨it, hit, rfl⟩ := (hli j hjlt).1 h1
    obtain ⟨pre, post, rfl⟩ := List.append_of_mem hit
    have hpre : ∀ p ∈ pre, listed.getD p.i true = false := fun p hpp => (hli p.i (hlt p (by simp [hpp]))).2 ⟨p, by simp [hpp], rfl⟩
    have hc' := Chain.first hc (hind pre post it listed hcl (List.Sublist.refl _) hj hpre)
    obtain ⟨c1, c2, c3⟩ := hc'
    have hsub : (pre ++ post).Sublist (pre ++ it :: post) := List.Sublist.append (List.Sublist.refl _) (List.sublist_cons_self ..)
    have hsubm : ∀ p ∈ pre ++ post, p ∈ pre ++ it :: post := fun p hpp => hsub.subset hpp
    have hap : ∀ p ∈ pre ++ post, Apart p it ∨ Apart it p := by
      intro p hpp
      rw [List.pairwise_append] at hp
      rcases List.mem_append.1 hpp with h | h
      · exact .inl (hp.2.2 p h it (by simp))
      · exact .inr ((List.pairwise_cons.1 hp.2.1).1 p h)
    have hnotin : ∀ p ∈ pre ++ post, p.i ≠ it.i := by
      intro p hpp e
      simp only [List.map_append, List.map_cons] at hnd
      rw [List.nodup_append] at hnd
      rcases List.mem_append.1 hpp with h | h
      · exact hnd.2.2 p.i (List.mem_map.2 ⟨p, h, rfl⟩) it.i (by simp) e
      · exact (List.nodup_cons.1 hnd.2.1).1 (e ▸ List.mem_map.2 ⟨p, h, rfl⟩)
    have hset : ∀ k, k < ops.size → ((listed.setIfInBounds it.i true).getD k true = false ↔ ∃ x ∈ pre ++ post, x.i = k) := by
      intro k hk
      by_cases e : k = it.i
      · subst e
        have : (listed.setIfInBounds it.i true).getD it.i true = true := by simp [hls, hjlt]
        rw [this]
        constructor
        · intro h; cases h
        · rintro ⟨x, hx, e⟩; exact absurd e (hnotin x hx)
      · rw [getD_set_ne true (Ne.symm e), hli k hk]
        constructor
        · rintro ⟨x, hx, rfl⟩
          refine ⟨x, ?_, rfl⟩
          simp only [List.mem_append, List.mem_cons] at hx ⊢
          rcases hx with h | rfl | h
          · exact .inl h
          · exact absurd rfl e
          · exact .inr h
        · rintro ⟨x, hx, rfl⟩; exact ⟨x, hsubm x hx, rfl⟩
    refine c2 Q w0 own σ u a w hf c1 (hn it hit) _ fun σ' a' w' hle hout hf' => ?_
    refine chain_any n (pre ++ post) (listed.setIfInBounds it.i true) _ u' σ' a' w' ?_ c3 hf' (fun x hx b hb1 hb2 => ?_) (hp.sublist hsub) (by simpa using hls) hset (fun x hx => hlt x (hsubm x hx))
      (hnd.sublist (hsub.map _)) (hcl.set hj) (fun pre' post' it' ls h0 h4 => hind pre' post' it' ls h0 (h4.trans hsub))
      (fun ls l h0 h1 => hne ls l h0 (h1.trans hsub)) fun σ'' a'' w'' hle' hout' hf'' => ?_
    · simp only [List.length_append, List.length_cons] at hl ⊢; omega
    · refine hout b (hn x (hsubm x hx) b hb1 hb2) ?_
      rcases hap x hx with h | h <;> rcases h with h | h <;> omega
    · refine hQ σ'' a'' w'' (hle.trans hle') (fun b hb hb' => ?_) hf''
      exact hout' b (hout b hb (hb' it hit)) fun x hx => hb' x (hsubm x hx)

end
end Go.Ab
namespace Go.Ab
variable {β : Type}

/-! ### the check of a region that asks the tape -/
def locEq : Loc → Loc → Bool
  | .tmp a, .tmp b => Nat.beq a b
  | .blk a, .blk b => Nat.beq a b
  | _, _ => false
theorem locEq_spec {a b : Loc} (h : locEq a b = false) : a ≠ b := by
  intro e
  subst e
  cases a <;> simp [locEq] at h
structure Foot where
  rd : List Loc
  wr : List Loc
def disjL (a b : List Loc) : Bool := a.all fun x => b.all fun y => !locEq x y
theorem disjL_spec {a b : List Loc} (h : disjL a b = true) : ∀ x ∈ a, ∀ y ∈ b, x ≠ y := by
  intro x hx y hy
  have := List.all_eq_true.1 (List.all_eq_true.1 h x hx) y hy
  exact locEq_spec (by simpa using this)
def indepF (a b : Foot) : Bool := disjL a.wr b.rd && disjL a.wr b.wr && disjL a.rd b.wr
def footOf (rd wr : Wr) : Foot := ⟨rd.map (·.1), wr.map (·.1)⟩
def It.foot (it : It) : Foot := footOf it.rd it.wr
theorem indepF_spec {a b : It} (h : indepF a.foot b.foot = true) : Indep a b := by
  simp only [indepF, Bool.and_eq_true] at h
  refine ⟨fun p hp q hq => disjL_spec h.1.1 _ (List.mem_map.2 ⟨p, hp, rfl⟩) _ (List.mem_map.2 ⟨q, hq, rfl⟩), fun p hp q hq => disjL_spec h.1.2 _ (List.mem_map.2 ⟨p, hp, rfl⟩) _ (List.mem_map.2 ⟨q, hq, rfl⟩), fun p hp q hq => disjL_spec h.2 _ (List.mem_map.2 ⟨p, hp, rfl⟩) _ (List.mem_map.2 ⟨q, hq, rfl⟩)⟩

def binding (o : Oper) : List Nat := o.after.toList.filterMap fun e => match Region.binds .any e with | true => some e.on | false => none
theorem mem_binding {o : Oper} {k : Nat} : k ∈ binding o ↔ ∃ e ∈ o.after, Region.binds .any e = true ∧ e.on = k := by
  unfold binding
  rw [List.mem_filterMap]
  constructor
  · rintro ⟨e, he, h⟩
    cases hb : Region.binds .any e with
    | true => rw [hb] at h; simp at h; exact ⟨e, by simpa using he, hb, h⟩
    | false => rw [hb] at h; cases h
  · rintro ⟨e, he, hb, rfl⟩
    exact ⟨e, by simpa using he, by rw [hb]⟩

def orAll (acc : List Nat) : List Nat → Nat
  | [] => 0
  | e :: r => (2 ^ e ||| (acc[e]?).getD 0) ||| orAll acc r
theorem orAll_spec (acc : List Nat) : ∀ (l : List Nat) (p : Nat), (orAll acc l).testBit p = true → ∃ e ∈ l, p = e ∨ ∃ m : Nat, acc[e]? = some m ∧ m.testBit p = true
  | [], p, h => by simp [orAll] at h
  | e :: r, p, h => by
    simp only [orAll, Nat.testBit_or, Bool.or_eq_true] at h
    rcases h with (h | h) | h
    · refine ⟨e, by simp, .inl ?_⟩
      rw [Nat.testBit_two_pow] at h
      simp at h; exact h.symm
    · cases hm : acc[e]? with
      | none => simp [hm] at h
      | some m => rw [hm] at h; exact ⟨e, by simp, .inr ⟨m, hm, by simpa using h⟩⟩
    · obtain ⟨e', h1, h2⟩ := orAll_spec acc r p h
      exact ⟨e', by simp [h1], h2⟩

/-- n brought to a numeral ahead of what goes on with it. -/
def forceN {γ : Type} (n : Nat) (k : Nat → γ) : γ := match n with | 0 => k 0 | m + 1 => k (m + 1)
theorem forceN_eq {γ : Type} (n : Nat) (k : Nat → γ) : forceN n k = k n := by cases n <;> rfl

def befs : List Oper → List Nat → List Nat
  | [], acc => acc
  | o :: r, acc => forceN (orAll acc (binding o)) fun m => befs r (acc ++ [m])

def BefOk (done : List Oper) (acc : List Nat) : Prop :=
  acc.length = done.length ∧ ∀ (j : Nat) (o : Oper) (m : Nat), done[j]? = some o → acc[j]? = some m → ∀ p, m.testBit p = true → ∃ e ∈ binding o, p = e ∨ ∃ m' : Nat, acc[e]? = some m' ∧ m'.testBit p = true

theorem befs_ok : ∀ (l done : List Oper) (acc : List Nat), BefOk done acc → BefOk (done ++ l) (befs l acc)
  | [], done, acc, h => by simpa [befs] using h
  | o :: r, done, acc, h => by
    simp only [befs, forceN_eq]
    have : done ++ o :: r = (done ++ [o]) ++ r := by simp
    rw [this]
    refine befs_ok r (done ++ [o]) _ ⟨by simp [h.1], fun j o' m hj hm p hp => ?_⟩
    have lift : ∀ e m', acc[e]? = some m' → (acc ++ [orAll acc (binding o)])[e]? = some m' := fun e m' he => by
      rw [List.getElem?_append_left (List.getElem?_eq_some_iff.1 he).1]; exact he
    by_cases hjl : j < done.length
    · rw [List.getElem?_append_left hjl] at hj
      rw [List.getElem?_append_left (by rw [h.1]; exact hjl)] at hm
      obtain ⟨e, h1, h2⟩ := h.2 j o' m hj hm p hp
      exact ⟨e, h1, h2.imp id fun ⟨m', h3, h4⟩ => ⟨m', lift e m' h3, h4⟩⟩
    · rw [List.getElem?_append_right (by omega)] at hj
      rw [List.getElem?_append_right (by rw [h.1]; omega)] at hm
      have e0 : j - done.length = 0 := by
        have := (List.getElem?_eq_some_iff.1 hj).1
        simp at this; omega
      rw [e0] at hj
      rw [h.1, e0] at hm
      simp at hj hm
      subst hj hm
      obtain ⟨e, h1, h2⟩ := orAll_spec acc _ p hp
      exact ⟨e, h1, h2.imp id fun ⟨m', h3, h4⟩ => ⟨m', lift e m' h3, h4⟩⟩

def edgesOk : Nat → List Oper → Bool
  | _, [] => true
  | k, o :: r => (binding o).all (fun e => Nat.blt e k) && edgesOk (k + 1) r
theorem edgesOk_spec : ∀ (l : List Oper) (k : Nat), edgesOk k l = true → ∀ (j : Nat) (o : Oper), l[j]? = some o → ∀ e ∈ binding o, e < k + j
  | [], _, _, j, o, h, _, _ => by simp at h
  | o' :: r, k, h, j, o, hj, e, he => by
    simp only [edgesOk, Bool.and_eq_true] at h
    cases j with
    | zero =>
      simp at hj; subst hj
      have := List.all_eq_true.1 h.1 e he
      simpa [Nat.blt_eq] using this
    | succ j =>
      simp at hj
      have := edgesOk_spec r (k + 1) h.2 j o hj e he
      omega

/-- Those ahead of a listed one are listed. -/
theorem listed_bef {ops : Array Oper} {ls : Array Bool} (hcl : Closed ops ls) (hed : edgesOk 0 ops.toList = true) {B : List Nat} (hB : BefOk ops.toList B) :
    ∀ (n e : Nat), e < n → ls.getD e false = true → ∀ m p : Nat, B[e]? = some m → m.testBit p = true → ls.getD p false = true := by
  intro n
  induction n with
  | zero => intro e h; omega
  | succ n ih =>
    intro e he hl m p hm hp
    have hlt : e < ops.toList.length := by rw [← hB.1]; exact (List.getElem?_eq_some_iff.1 hm).1
    obtain ⟨o, ho⟩ : ∃ o, ops.toList[e]? = some o := ⟨_, List.getElem?_eq_getElem hlt⟩
    obtain ⟨e', h1, h2⟩ := hB.2 e o m ho hm p hp
    have hlt' := edgesOk_spec _ 0 hed e o ho e' h1
    obtain ⟨ed, h3, h4, h5⟩ := mem_binding.1 h1
    have hl' : ls.getD e' false = true := by rw [← h5]; exact hcl e o (by simpa using ho) hl ed h3 h4
    rcases h2 with rfl | ⟨m', h6, h7⟩
    · exact hl'
    · exact ih e' (by omega) hl' m' p h6 h7

def chk : Nat → List (Nat × Foot) → List Foot → List Nat → Bool
  | k, prev, f :: fs, m :: ms => (prev.all fun q => m.testBit q.1 || indepF q.2 f) && chk (k + 1) ((k, f) :: prev) fs ms
  | _, _, [], _ => true
  | _, _, _ :: _, [] => false

theorem chk_spec : ∀ (fs : List Foot) (ms : List Nat) (k : Nat) (prev : List (Nat × Foot)), chk k prev fs ms = true →
    (∀ q ∈ prev, ∀ (j : Nat) (f : Foot) (m : Nat), fs[j]? = some f → ms[j]? = some m → m.testBit q.1 = true ∨ indepF q.2 f = true) ∧
    (∀ (a b : Nat) (fa fb : Foot) (mb : Nat), a < b → fs[a]? = some fa → fs[b]? = some fb → ms[b]? = some mb → mb.testBit (k + a) = true ∨ indepF fa fb = true)
  | [], ms, k, prev, _ => ⟨fun q _ j f m h => by simp at h, fun a b fa fb mb _ h => by simp at h⟩
  | f :: fs, [], k, prev, h => by simp [chk] at h
  | f :: fs, m :: ms, k, prev, h => by
    simp only [chk, Bool.and_eq_true] at h
    obtain ⟨h1, h2⟩ := chk_spec fs ms (k + 1) ((k, f) :: prev) h.2
    refine ⟨fun q hq j f' m' hf hm => ?_, fun a b fa fb mb hab ha hb hm => ?_⟩
    · cases j with
      | zero =>
        simp at hf hm; subst hf hm
        have := List.all_eq_true.1 h.1 q hq
        simpa using this
      | succ j => simp at hf hm; exact h1 q (by simp [hq]) j f' m' hf hm
    · cases b with
      | zero => omega
      | succ b =>
        simp at hb hm
        cases a with
        | zero => simp at ha; subst ha; exact h1 (k, f) (by simp) b fb mb hb hm
        | succ a =>
          simp at ha
          have := h2 a b fa fb mb (by omega) ha hb hm
          rwa [show k + 1 + a = k + (a + 1) by omega] at this

/-- May the operations come up in any order that the edges allow? -/
def anyOk (ops : List Oper) (feet : List Foot) : Bool := edgesOk 0 ops && chk 0 [] feet (befs ops [])

section
variable {P : Program} {N : Nat} {ops : Array Oper} {Q : Exit → Act → World → Prop} {w0 : World} {own : Nat → Prop}

theorem wpAny_of_chain {items : List It} (hlen : items.length = ops.size) (hix : ∀ (k : Nat) (it : It), items[k]? = some it → it.i = k) (hok : anyOk ops.toList (items.map It.foot) = true) {u u' : U} {σ : Nat → Option Nat} {a : Act} {w : World}
    (hc : Chain P N ops items u u') (hf : Fits N w0 own σ u a w) (hn : Fresh items σ) (hp : items.Pairwise Apart)
    (hQ : ∀ σ' a' w', Le σ σ' → Out items σ σ' → Fits N w0 own σ' u' a' w' → Q .normal a' w') : wpAny P .any ops Q ops.size (Array.replicate ops.size false) a w := by
  simp only [anyOk, Bool.and_eq_true] at hok
  obtain ⟨hed, hchk⟩ := hok
  have hB : BefOk ops.toList (befs ops.toList []) := by
    have := befs_ok ops.toList [] [] ⟨rfl, fun j o m h => by simp at h⟩
    simpa using this
  have hspec := (chk_spec _ _ 0 [] hchk).2
  have hinc : items.Pairwise fun a b => a.i < b.i := by
    rw [List.pairwise_iff_getElem]
    intro p q hp1 hq1 hpq
    rw [hix p _ (List.getElem?_eq_getElem hp1), hix q _ (List.getElem?_eq_getElem hq1)]
    exact hpq
  have hmem : ∀ it ∈ items, items[it.i]? = some it ∧ it.i < ops.size := by
    intro it hit
    obtain ⟨k, hk, e⟩ := List.getElem_of_mem hit
    have h1 : items[k]? = some it := by rw [List.getElem?_eq_getElem hk, e]
    have := hix k it h1
    rw [this]
    exact ⟨h1, by omega⟩
  refine chain_any ops.size items (Array.replicate ops.size false) u u' σ a w hlen hc hf hn hp (by simp) (fun j hj => ?_) (fun it hit => (hmem it hit).2) ?_ ?_ ?_ ?_ hQ
  · have h1 : (Array.replicate ops.size false).getD j true = false := by simp [hj]
    refine ⟨fun _ => ⟨items[j], List.getElem_mem _, hix j _ (List.getElem?_eq_getElem (by omega))⟩, fun _ => h1⟩
  · rw [List.Nodup, List.pairwise_map]
    exact hinc.imp fun h => Nat.ne_of_lt h
  · intro j o _ h
    by_cases hj : j < ops.size
    · simp [hj] at h
    · simp [hj] at h
  · intro pre post it ls hcl hsub hready hpre p hpp
    have hit : it ∈ items := hsub.subset (by simp)
    have hpit : p ∈ items := hsub.subset (by simp [hpp])
    have hlt : p.i < it.i := by
      have := hinc.sublist hsub
      rw [List.pairwise_append] at this
      exact this.2.2 p hpp it (by simp)
    obtain ⟨h1, o, h2, h3⟩ := mem_ready.1 hready
    obtain ⟨hi1, hi2⟩ := hmem it hit
    obtain ⟨hp1, hp2⟩ := hmem p hpit
    have hm : it.i < (befs ops.toList []).length := by rw [hB.1]; simpa using hi2
    rcases hspec p.i it.i p.foot it.foot (befs ops.toList [])[it.i] hlt (by simp [hp1]) (by simp [hi1]) (List.getElem?_eq_getElem hm) with h | h
    · exfalso
      rw [Nat.zero_add] at h
      obtain ⟨e, h4, h5⟩ := hB.2 it.i o _ (by simpa using h2) (List.getElem?_eq_getElem hm) p.i h
      obtain ⟨ed, h6, h7, h8⟩ := mem_binding.1 h4
      have hl := h3 ed h6 h7
      rw [h8] at hl
      have hpl : ls.getD p.i false = true := by
        rcases h5 with h5 | ⟨m', h9, h10⟩
        · rw [h5]; exact hl
        · exact listed_bef hcl hed hB (e + 1) e (by omega) hl m' p.i h9 h10
      have hpf := hpre p hpp
      rcases Nat.lt_or_ge p.i ls.size with hx | hx
      · simp [hx] at hpl hpf; rw [hpl] at hpf; cases hpf
      · simp [Array.getElem?_eq_none hx] at hpl
    · exact indepF_spec h
  · intro ls l hsz hsub hne hiff hnil
    cases l with
    | nil => exact hne rfl
    | cons it r =>
      have hit : it ∈ items := hsub.subset (by simp)
      obtain ⟨hi1, hi2⟩ := hmem it hit
      have hinc' := hinc.sublist hsub
      rw [List.pairwise_cons] at hinc'
      have : it.i ∈ Region.ready .any ops ls := by
        refine mem_ready.2 ⟨(hiff it.i hi2).2 ⟨it, by simp, rfl⟩, ops[it.i], Array.getElem?_eq_getElem hi2, fun e he hb => ?_⟩
        have hlt := edgesOk_spec _ 0 hed it.i ops[it.i] (by simp [Array.getElem?_eq_getElem hi2]) e.on (mem_binding.2 ⟨e, he, hb, rfl⟩)
        rw [Nat.zero_add] at hlt
        have hlt2 : e.on < ls.size := by omega
        cases hv : ls.getD e.on true with
        | false =>
          obtain ⟨x, hx, hxe⟩ := (hiff e.on (by omega)).1 hv
          simp only [List.mem_cons] at hx
          rcases hx with rfl | hx
          · omega
          · have := hinc'.1 x hx; omega
        | true => simp [hlt2] at hv ⊢; exact hv
      rw [hnil] at this
      cases this
end
end Go.Ab
