/- A part of the proof of 'FrameOpens': lemmas, no statement of their own; no condition. -/
import Derived.Test.YtanilhagglikjaaDrA
import Derived.Test.YtanilhagglikjaaFrA
/- Regions whose order is asked, op by op, by values. -/
namespace Go.Ab
open Go
/-- One operation: what it reads, what it gives, and which state of the world it finds and leaves. -/
structure Sp where
  i : Nat
  d : Nat
  on : Bool
  reads : List (Nat × Value)
  val : Value
  tok : Option (Nat × Nat)
def Sp.tokR (s : Sp) : Wr := match s.tok with | none => [] | some (n, _) => [(.blk 0, .row n [])]
def Sp.tokW (s : Sp) : Wr := match s.tok with | none => [] | some (n, m) => match Nat.beq n m with | true => [] | false => [(.blk 0, .row m [])]
def Sp.it (s : Sp) : It := ⟨s.i, s.reads.map (fun p => (.tmp p.1, .av (.val p.2))) ++ s.tokR, (.tmp s.d, .av (.val s.val)) :: s.tokW, 0, 0⟩
def Reads (s : Sp) (a : Act) : Prop := ∀ p ∈ s.reads, a.tmps[p.1]? = some p.2
structure SpOk (P : Program) (ops : Array Oper) (W : Nat → World) (N : Nat) (s : Sp) : Prop where
  lt : s.d < N
  op : ∃ o, ops[s.i]? = some o ∧ o.dst = some s.d ∧ (∀ a : Act, Reads s a → Region.wanted o (yielded ops a.tmps) = s.on) ∧
    (s.on = false → s.val = undef ∧ s.tok = none) ∧
    (s.on = true → match s.tok with
      | none => ∀ (a : Act) (w : World), Reads s a → (execOp a.eval o).run P w = .ok (.value s.val) w
      | some (n, m) => ∀ a : Act, Reads s a → (execOp a.eval o).run P (W n) = .ok (.value s.val) (W m))
def TokR (W : Nat → World) (N : Nat) (u : U) (a : Act) (w : World) : Prop :=
  a.defers = [] ∧ a.tmps.size = N ∧ (∀ t v, u (.tmp t) = some (.av (.val v)) → a.tmps[t]? = some v) ∧ ∃ n, u (.blk 0) = some (.row n []) ∧ w = W n
theorem sp_ex {P : Program} {ops : Array Oper} {W : Nat → World} {N : Nat} {Q : Exit → Act → World → Prop} {s : Sp} (h : SpOk P ops W N s) : ExR P ops (TokR W N) Q s.it := by
  intro u a w hR hrd K hK
  obtain ⟨hlt, o, ho, hdst, hwant, hoff, hon⟩ := h
  obtain ⟨r1, r2, r3, n0, r4, rfl⟩ := hR
  have hreads : Reads s a := by
    intro p hp
    refine r3 p.1 p.2 (hrd (.tmp p.1, .av (.val p.2)) ?_)
    unfold Sp.it
    simp only [List.mem_append, List.mem_map]
    exact .inl ⟨p, hp, rfl⟩
  have put : ∀ m, (s.tok = none ∧ m = n0 ∨ ∃ n, s.tok = some (n, m) ∧ n = n0) → TokR W N (upd u s.it.wr) (a.put (some s.d) s.val) (W m) := by
    intro m hm
    refine ⟨r1, by simp [Act.put, r2], fun t v ht => ?_, m, ?_, rfl⟩
    · have e : upd u s.it.wr (.tmp t) = if t = s.d then some (.av (.val s.val)) else u (.tmp t) := by
        unfold Sp.it Sp.tokW
        rcases hm with ⟨h1, _⟩ | ⟨n, h1, _⟩
        · rw [h1]
          simp only [upd, upd1]
          by_cases e : t = s.d
          · simp [e]
          · simp [e]
        · rw [h1]
          dsimp only
          split
          · simp only [upd, upd1]
            by_cases e : t = s.d
            · simp [e]
            · simp [e]
          · simp only [upd, upd1]
            by_cases e : t = s.d
            · simp [e]
            · simp [e]
      rw [e] at ht
      by_cases e2 : t = s.d
      · rw [if_pos e2] at ht
        cases ht
        subst e2
        simp [Act.put, r2, hlt]
      · rw [if_neg e2] at ht
        have := r3 t v ht
        simp [Act.put, Ne.symm e2, this]
    · unfold Sp.it Sp.tokW
      rcases hm with ⟨h1, rfl⟩ | ⟨n, h1, rfl⟩
      · rw [h1]
        simp only [upd, upd1]
        simp [r4]
      · rw [h1]
        dsimp only
        split
        · rename_i e
          have := Nat.eq_of_beq_eq_true e
          subst this
          simp only [upd, upd1]
          simp [r4]
        · simp only [upd, upd1]
          simp
  unfold wpOp
  show match ops[s.i]? with | none => _ | some o => _
  rw [ho]
  simp only
  cases hs : s.on with
  | false =>
    rw [if_neg (by rw [hwant a hreads, hs]; decide), hdst]
    obtain ⟨e1, e2⟩ := hoff hs
    have := put n0 (.inl ⟨e2, rfl⟩)
    rw [e1] at this
    exact hK _ _ this
  | true =>
    rw [if_pos (by rw [hwant a hreads, hs])]
    refine .inl ?_
    have hon := hon hs
    unfold Oper.wp
    cases ht : s.tok with
    | none =>
      rw [ht] at hon
      rw [hon a _ hreads, Oper.upon_value, hdst]
      exact hK _ _ (put n0 (.inl ⟨ht, rfl⟩))
    | some p =>
      obtain ⟨n, m⟩ := p
      rw [ht] at hon
      have hn : n = n0 := by
        have := hrd (.blk 0, .row n []) (by unfold Sp.it Sp.tokR; rw [ht]; simp)
        simp only at this
        rw [r4] at this
        cases this
        rfl
      subst hn
      rw [hon a hreads, Oper.upon_value, hdst]
      exact hK _ _ (put m (.inr ⟨n, ht, rfl⟩))
/-- What stands ahead of each operation, in their own order. -/
def ChOk : List Sp → (Nat → Option Value) → Nat → Nat → Prop
  | [], _, n, e => n = e
  | s :: r, f, n, e => (∀ p ∈ s.reads, f p.1 = some p.2) ∧ (match s.tok with
      | none => ChOk r (fun t => if t = s.d then some s.val else f t) n e
      | some (m, m') => m = n ∧ ChOk r (fun t => if t = s.d then some s.val else f t) m' e)
def uOf (f : Nat → Option Value) (n : Nat) : U := fun
  | .tmp t => (f t).map fun v => .av (.val v)
  | .blk 0 => some (.row n [])
  | .blk _ => none
theorem upd_uOf {s : Sp} {f : Nat → Option Value} {n m : Nat} (h : s.tok = none ∧ m = n ∨ ∃ k, s.tok = some (k, m) ∧ k = n) : upd (uOf f n) s.it.wr = uOf (fun t => if t = s.d then some s.val else f t) m := by
  funext l
  unfold Sp.it Sp.tokW
  rcases h with ⟨h1, rfl⟩ | ⟨k, h1, rfl⟩
  · rw [h1]
    simp only [upd, upd1]
    cases l with
    | tmp t => by_cases e : t = s.d <;> simp [uOf, e]
    | blk b => cases b <;> simp [uOf]
  · rw [h1]
    dsimp only
    split
    · rename_i e
      have := Nat.eq_of_beq_eq_true e
      subst this
      simp only [upd, upd1]
      cases l with
      | tmp t => by_cases e : t = s.d <;> simp [uOf, e]
      | blk b => cases b <;> simp [uOf]
    · simp only [upd, upd1]
      cases l with
      | tmp t => by_cases e : t = s.d <;> simp [uOf, e]
      | blk b => cases b <;> simp [uOf]
theorem chain_of {P : Program} {ops : Array Oper} {W : Nat → World} {N : Nat} {Q : Exit → Act → World → Prop} : ∀ (sps : List Sp) (f : Nat → Option Value) (n e : Nat), (∀ s ∈ sps, SpOk P ops W N s) → ChOk sps f n e →
    ChainR (ExR P ops (TokR W N) Q) (sps.map Sp.it) (uOf f n) (uOf (sps.foldl (fun f s => fun t => if t = s.d then some s.val else f t) f) e)
  | [], f, n, e, _, h => by
    simp only [ChOk] at h
    subst h
    rfl
  | s :: r, f, n, e, hok, h => by
    obtain ⟨h1, h2⟩ := h
    have hs := sp_ex (Q := Q) (hok s (List.mem_cons_self ..))
    have hread : (∀ p ∈ s.tokR, uOf f n p.1 = some p.2) → ∀ x ∈ s.it.rd, uOf f n x.1 = some x.2 := by
      intro htok x hx
      unfold Sp.it at hx
      simp only [List.mem_append, List.mem_map] at hx
      rcases hx with ⟨p, hp, rfl⟩ | hx
      · simp [uOf, h1 p hp]
      · exact htok x hx
    refine ⟨hread fun p hp => ?_, hs, ?_⟩
    · unfold Sp.tokR at hp
      cases ht : s.tok with
      | none => rw [ht] at hp; cases hp
      | some q =>
        obtain ⟨a, b⟩ := q
        rw [ht] at hp h2
        simp only [List.mem_singleton] at hp
        subst hp
        rw [h2.1]
        rfl
    · simp only [List.foldl_cons]
      cases ht : s.tok with
      | none =>
        rw [ht] at h2
        rw [upd_uOf (m := n) (.inl ⟨ht, rfl⟩)]
        exact chain_of r _ n e (fun x hx => hok x (List.mem_cons_of_mem _ hx)) h2
      | some q =>
        obtain ⟨a, b⟩ := q
        rw [ht] at h2
        rw [upd_uOf (m := b) (.inr ⟨a, ht, h2.1⟩)]
        exact chain_of r _ b e (fun x hx => hok x (List.mem_cons_of_mem _ hx)) h2.2
theorem foldl_put : ∀ (sps : List Sp) (a : Act) (N : Nat), a.tmps.size = N → (∀ s ∈ sps, s.d < N) →
    (sps.foldl (fun a s => a.put (some s.d) s.val) a).tmps.size = N ∧ (sps.foldl (fun a s => a.put (some s.d) s.val) a).defers = a.defers ∧
    ∀ t, (sps.foldl (fun a s => a.put (some s.d) s.val) a).tmps[t]? = (sps.foldl (fun (f : Nat → Option Value) s => fun t => if t = s.d then some s.val else f t) (fun t => a.tmps[t]?)) t
  | [], a, N, h, _ => ⟨h, rfl, fun _ => rfl⟩
  | s :: r, a, N, h, hd => by
    obtain ⟨h1, h2, h3⟩ := foldl_put r (a.put (some s.d) s.val) N (by simp [Act.put, h]) fun x hx => hd x (List.mem_cons_of_mem _ hx)
    refine ⟨h1, h2, fun t => ?_⟩
    rw [List.foldl_cons, List.foldl_cons, h3 t]
    have e : (fun t => (a.put (some s.d) s.val).tmps[t]?) = fun t => if t = s.d then some s.val else a.tmps[t]? := by
      funext t
      have hlt := hd s (List.mem_cons_self ..)
      by_cases e : t = s.d
      · subst e; simp [Act.put, h, hlt]
      · simp [Act.put, Ne.symm e, e]
    rw [e]
/-- A region whose order is asked: whatever it is, the frame and the world are as behind the operations in their own order. -/
theorem draw_vals {P : Program} {ops : Array Oper} {W : Nat → World} {N id e : Nat} {Q : Exit → Act → World → Prop} {a : Act} {w : World} {sps : List Sp} (hm : P.follows .mixedOrders = true) (hlen : sps.length = ops.size) (hix : ∀ (k : Nat) (s : Sp), sps[k]? = some s → s.i = k)
    (hok : anyOk ops.toList (sps.map fun s => s.it.foot) = true) (hsp : ∀ s ∈ sps, SpOk P ops W N s) (hd : a.defers = []) (hs : a.tmps.size = N) (hW : W 0 = { w with drawn := w.drawn + 1 }) (hch : ChOk sps (fun t => a.tmps[t]?) 0 e)
    (hQ : Q .normal (sps.foldl (fun a s => a.put (some s.d) s.val) a) (W e)) : (Code.region id ops true).wp P Q a w := by
  refine wp_region_any hm ?_
  have hc := chain_of (Q := Q) sps _ 0 e hsp hch
  refine wpAny_of_chainR (R := TokR W N) (items := sps.map Sp.it) (by simpa using hlen) (fun k it hk => ?_) (by simpa [List.map_map, Function.comp_def] using hok) hc ?_ ?_
  · rw [List.getElem?_map] at hk
    cases hks : sps[k]? with
    | none => rw [hks] at hk; cases hk
    | some s =>
      rw [hks] at hk
      cases hk
      exact hix k s hks
  · refine ⟨hd, hs, fun t v ht => ?_, 0, rfl, hW.symm⟩
    have ht : (a.tmps[t]?).map (fun v => Con.av (.val v)) = some (.av (.val v)) := ht
    cases h : a.tmps[t]? with
    | none => rw [h] at ht; cases ht
    | some x =>
      rw [h] at ht
      simp only [Option.map_some, Option.some.injEq, Con.av.injEq, AV.val.injEq] at ht
      rw [ht]
  · intro a' w' hR
    obtain ⟨h1, h2, h3, n, h4, rfl⟩ := hR
    obtain ⟨f1, f2, f3⟩ := foldl_put sps a N hs fun s hs => (hsp s hs).lt
    have hn : n = e := by
      simp only [uOf, Option.some.injEq, Con.row.injEq] at h4
      exact h4.1.symm
    have ha : a' = sps.foldl (fun a s => a.put (some s.d) s.val) a := by
      have ht : a'.tmps = (sps.foldl (fun a s => a.put (some s.d) s.val) a).tmps := by
        apply Array.ext
        · rw [h2, f1]
        · intro i hi1 hi2
          have hx := f3 i
          rw [Array.getElem?_eq_getElem hi2] at hx
          have := h3 i _ (show (List.foldl (fun (f : Nat → Option Value) (s : Sp) => fun t => if t = s.d then some s.val else f t) (fun t => a.tmps[t]?) sps i).map (fun v => Con.av (.val v)) = _ by rw [← hx]; rfl)
          rw [Array.getElem?_eq_getElem hi1] at this
          exact Option.some.inj this
      have hdf : a'.defers = (sps.foldl (fun a s => a.put (some s.d) s.val) a).defers := by rw [h1, f2, hd]
      cases a'
      cases hb : sps.foldl (fun a s => a.put (some s.d) s.val) a
      rw [hb] at ht hdf
      simp only at ht hdf
      rw [ht, hdf]
    rw [ha, hn]
    exact hQ
end Go.Ab
