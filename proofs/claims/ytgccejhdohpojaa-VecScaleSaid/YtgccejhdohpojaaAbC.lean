/- A part of the proof of 'VecScale': lemmas, no statement of their own; no condition. -/
import Derived.Test.YtgccejhdohpojaaAbB
namespace Go.Ab

abbrev Wr := List (Loc × Con)
abbrev Hp := List (Nat × Con)

/-- Operation i, in whatever state agrees with rd, comes to the state with wr laid over it; new blocks' names lie in [lo, hi). -/
def Exec (P : Program) (N : Nat) (ops : Array Oper) (i : Nat) (rd wr : Wr) (lo hi : Nat) : Prop :=
  ∀ (Q : Exit → Act → World → Prop) (w0 : World) (own : Nat → Prop) (σ : Nat → Option Nat) (u : U) (a : Act) (w : World), Fits N w0 own σ u a w → (∀ x ∈ rd, u x.1 = some x.2) → (∀ b, lo ≤ b → b < hi → σ b = none) →
    ∀ K : Act → World → Prop, (∀ σ' a' w', Le σ σ' → (∀ b, σ b = none → (b < lo ∨ hi ≤ b) → σ' b = none) → Fits N w0 own σ' (upd u wr) a' w' → K a' w') → wpOp P ops Q i K a w

theorem exec_of_wp {P : Program} {N : Nat} {ops : Array Oper} {i : Nat} {rd wr : Wr} {lo hi : Nat} {o : Oper} (ho : ops[i]? = some o)
    (hwant : ∀ w0 own σ u a w, Fits N w0 own σ u a w → (∀ x ∈ rd, u x.1 = some x.2) → Region.wanted o (yielded ops a.tmps) = true)
    (h : ∀ (Q : Exit → Act → World → Prop) w0 own σ u a w, Fits N w0 own σ u a w → (∀ x ∈ rd, u x.1 = some x.2) → (∀ b, lo ≤ b → b < hi → σ b = none) →
      ∀ K : Act → World → Prop, (∀ σ' a' w', Le σ σ' → (∀ b, σ b = none → (b < lo ∨ hi ≤ b) → σ' b = none) → Fits N w0 own σ' (upd u wr) a' w' → K a' w') → o.wp P a w K Q) :
    Exec P N ops i rd wr lo hi := by
  intro Q w0 own σ u a w hf hr hn K hK
  unfold wpOp
  rw [ho]
  simp only
  rw [if_pos (hwant w0 own σ u a w hf hr)]
  exact .inl (h Q w0 own σ u a w hf hr hn K hK)

/-! ### operands -/
def opd (tmps : List AV) : Operand → Option AV
  | .tmp t => tmps[t]?
  | .const v => some (.val v)
  | .func f => some (.func f [] [])
  | .global _ => none
def rdOf (tmps : List AV) : Operand → Wr
  | .tmp t => match tmps[t]? with | some a => [(.tmp t, .av a)] | none => []
  | _ => []
def rdAll (tmps : List AV) (o : Oper) : Wr := o.op.operands.toList.flatMap (rdOf tmps)

theorem opd_rel {N : Nat} {w0 : World} {own : Nat → Prop} {σ : Nat → Option Nat} {u : U} {a : Act} {w : World} (hf : Fits N w0 own σ u a w) {tmps : List AV} {x : Operand} {r : AV}
    (hr : ∀ p ∈ rdOf tmps x, u p.1 = some p.2) (h : opd tmps x = some r) : Rel σ r (a.eval x) := by
  cases x with
  | tmp t =>
    simp only [opd] at h
    have h1 := hr (.tmp t, .av r) (by simp [rdOf, h])
    obtain ⟨y, hy, hrel⟩ := hf.tmp t r h1
    simpa [Act.eval, hy] using hrel
  | const v => simp only [opd, Option.some.injEq] at h; subst h; simp [Rel, Act.eval]
  | func f => simp only [opd, Option.some.injEq] at h; subst h; simp only [Rel, Act.eval]; exact ⟨[], [], rfl, by simp [Rels], by simp [Rels]⟩
  | global g => simp [opd] at h

theorem rdAll_mem {u : U} {tmps : List AV} {o : Oper} (h : ∀ p ∈ rdAll tmps o, u p.1 = some p.2) {x : Operand} (hx : x ∈ o.op.operands) : ∀ p ∈ rdOf tmps x, u p.1 = some p.2 :=
  fun p hp => h p (List.mem_flatMap.2 ⟨x, by simpa using hx, hp⟩)

def valEnv (tmps : List AV) (x : Operand) : Value := match opd tmps x with | some (.val v) => v | _ => undef
def isVal (tmps : List AV) (x : Operand) : Bool := match opd tmps x with | some (.val _) => true | _ => false

theorem valEnv_eval {N : Nat} {w0 : World} {own : Nat → Prop} {σ : Nat → Option Nat} {u : U} {a : Act} {w : World} (hf : Fits N w0 own σ u a w) {tmps : List AV} {x : Operand}
    (hr : ∀ p ∈ rdOf tmps x, u p.1 = some p.2) (h : isVal tmps x = true) : a.eval x = valEnv tmps x := by
  unfold isVal at h
  split at h
  · rename_i v e
    have := opd_rel hf hr e
    simp only [Rel] at this
    rw [this]
    simp [valEnv, e]
  · cases h

def noSel : Op → Bool | .select .. => false | _ => true

theorem exec_val {N : Nat} {w0 : World} {own : Nat → Prop} {σ : Nat → Option Nat} {u : U} {a : Act} {w : World} (hf : Fits N w0 own σ u a w) {tmps : List AV} {o : Oper}
    (hr : ∀ p ∈ rdAll tmps o, u p.1 = some p.2) (hs : noSel o.op = true) (h : o.op.operands.toList.all (isVal tmps) = true) : execOp a.eval o = execOp (valEnv tmps) o := by
  refine execOp_congr o (fun cs b e => by simp [e, noSel] at hs) fun x hx => ?_
  exact valEnv_eval hf (rdAll_mem hr hx) (List.all_eq_true.1 h x (by simpa using hx))

/-! ### the end of an operation -/
variable {β : Type}
def fin (N : Nat) (o : Oper) (rd : Wr) (r : AV) (extra : Wr) (K : Wr → Wr → Option β) : Option β :=
  match o.dst with
  | some d => match decide (d < N) with | true => K rd ((.tmp d, .av r) :: extra) | false => none
  | none => K rd extra

theorem fin_sound {P : Program} {N : Nat} {ops : Array Oper} {i : Nat} {rd extra : Wr} {lo hi : Nat} {o : Oper} (ho : ops[i]? = some o) {r : AV} {K : Wr → Wr → Option β} {res : β}
    (h : fin N o rd r extra K = some res)
    (hwant : ∀ w0 own σ u a w, Fits N w0 own σ u a w → (∀ x ∈ rd, u x.1 = some x.2) → Region.wanted o (yielded ops a.tmps) = true)
    (hrun : ∀ (Q : Exit → Act → World → Prop) w0 own σ u a w, Fits N w0 own σ u a w → (∀ x ∈ rd, u x.1 = some x.2) → (∀ b, lo ≤ b → b < hi → σ b = none) →
      ∀ K : Act → World → Prop, (∀ σ' x w', Le σ σ' → (∀ b, σ b = none → (b < lo ∨ hi ≤ b) → σ' b = none) → Fits N w0 own σ' (upd u extra) a w' → Rel σ' r x → K (a.put o.dst x) w') → o.wp P a w K Q) :
    ∃ rd' wr, K rd' wr = some res ∧ rd' = rd ∧ Exec P N ops i rd' wr lo hi := by
  unfold fin at h
  split at h
  · rename_i d hd
    split at h
    · rename_i hlt
      refine ⟨rd, _, h, rfl, exec_of_wp ho hwant fun Q w0 own σ u a w hf hr hn K' hK => ?_⟩
      refine hrun Q w0 own σ u a w hf hr hn K' fun σ' x w' h1 h2 h3 h4 => hK σ' _ w' h1 h2 ?_
      rw [hd]
      exact h3.put (of_decide_eq_true hlt) h4
    · cases h
  · rename_i hd
    refine ⟨rd, _, h, rfl, exec_of_wp ho hwant fun Q w0 own σ u a w hf hr hn K' hK => ?_⟩
    refine hrun Q w0 own σ u a w hf hr hn K' fun σ' x w' h1 h2 h3 h4 => hK σ' _ w' h1 h2 ?_
    rw [hd]
    exact h3

/-- The commonest: the operation's run gives a value. -/
theorem fin_value {P : Program} {N : Nat} {ops : Array Oper} {i : Nat} {rd extra : Wr} {lo hi : Nat} {o : Oper} (ho : ops[i]? = some o) {r : AV} {K : Wr → Wr → Option β} {res : β}
    (h : fin N o rd r extra K = some res)
    (hwant : ∀ w0 own σ u a w, Fits N w0 own σ u a w → (∀ x ∈ rd, u x.1 = some x.2) → Region.wanted o (yielded ops a.tmps) = true)
    (hrun : ∀ w0 own σ u a w, Fits N w0 own σ u a w → (∀ x ∈ rd, u x.1 = some x.2) → (∀ b, lo ≤ b → b < hi → σ b = none) →
      ∃ σ' x w', (execOp a.eval o).run P w = .ok (.value x) w' ∧ Le σ σ' ∧ (∀ b, σ b = none → (b < lo ∨ hi ≤ b) → σ' b = none) ∧ Fits N w0 own σ' (upd u extra) a w' ∧ Rel σ' r x) :
    ∃ rd' wr, K rd' wr = some res ∧ rd' = rd ∧ Exec P N ops i rd' wr lo hi := by
  refine fin_sound ho h hwant fun Q w0 own σ u a w hf hr hn K' hK => ?_
  obtain ⟨σ', x, w', h1, h2, h3, h4, h5⟩ := hrun w0 own σ u a w hf hr hn
  unfold Oper.wp
  rw [h1]
  exact hK σ' x w' h2 h3 h4 h5

/-- No memory turns. -/
theorem fin_quiet {P : Program} {N : Nat} {ops : Array Oper} {i : Nat} {rd : Wr} {lo hi : Nat} {o : Oper} (ho : ops[i]? = some o) {r : AV} {K : Wr → Wr → Option β} {res : β}
    (h : fin N o rd r [] K = some res)
    (hwant : ∀ w0 own σ u a w, Fits N w0 own σ u a w → (∀ x ∈ rd, u x.1 = some x.2) → Region.wanted o (yielded ops a.tmps) = true)
    (hrun : ∀ w0 own σ u a w, Fits N w0 own σ u a w → (∀ x ∈ rd, u x.1 = some x.2) → ∃ x, (execOp a.eval o).run P w = .ok (.value x) w ∧ Rel σ r x) :
    ∃ rd' wr, K rd' wr = some res ∧ rd' = rd ∧ Exec P N ops i rd' wr lo hi :=
  fin_value ho h hwant fun w0 own σ u a w hf hr _ => by
    obtain ⟨x, h1, h2⟩ := hrun w0 own σ u a w hf hr
    exact ⟨σ, x, w, h1, Le.refl σ, fun _ h _ => h, hf, h2⟩

/-! ### blocks by name -/
def hget : Hp → Nat → Option Con
  | [], _ => none
  | (b', c) :: r, b => match Nat.beq b' b with | true => some c | false => hget r b

mutual
def names : AV → List Nat
  | .val _ => []
  | .ptr b _ => [b]
  | .slice b _ _ _ => [b]
  | .agg cs => namesL cs
  | .tuple cs => namesL cs
  | .func _ a b => namesL a ++ namesL b
  | .map b => [b]
  | .any => []
def namesL : List AV → List Nat
  | [] => []
  | a :: as => names a ++ namesL as
end
def conNames : Con → List Nat
  | .av a => names a
  | .row _ cs => namesL cs
  | .obj _ => []
def hasN : List Nat → Nat → Bool
  | [], _ => false
  | x :: r, b => match Nat.beq x b with | true => true | false => hasN r b
def reach : Nat → Hp → List Nat → List Nat → List Nat
  | 0, _, _, acc => acc
  | _ + 1, _, [], acc => acc
  | n + 1, heap, b :: todo, acc => match hasN acc b with
    | true => reach n heap todo acc
    | false => match hget heap b with
      | some c => reach n heap (conNames c ++ todo) (b :: acc)
      | none => reach n heap todo acc
def subheap (heap : Hp) : List Nat → Hp
  | [] => []
  | b :: r => match hget heap b with
    | some c => (b, c) :: subheap heap r
    | none => subheap heap r

abbrev CallR (β : Type) := FuncId → List AV → Hp → Nat → Nat → (AV → Hp → Option β) → Option β

def ConFits (σ : Nat → Option Nat) (w : World) (b : Nat) : Con → Prop
  | .row e cs => ∃ r vs, σ b = some r ∧ w.heap[r]? = some (.cells (List.toArray vs) e (0, 0)) ∧ Rels σ cs vs
  | .obj o => ∃ r, σ b = some r ∧ w.heap[r]? = some o
  | .av _ => True
def HFits (σ : Nat → Option Nat) (H : Hp) (w : World) : Prop := ∀ b c, hget H b = some c → ConFits σ w b c

/-- What a call comes to. -/
def CallFacts (P : Program) (f : FuncId) (args : List AV) (H : Hp) (lo hi : Nat) (res : AV) (H' : Hp) : Prop :=
  ∀ (σ : Nat → Option Nat) (vals : List Value) (w : World), (∀ b b' r, σ b = some r → σ b' = some r → b = b') → (∀ b r, σ b = some r → r < w.heap.size) → Rels σ args vals → HFits σ H w →
    (∀ b, lo ≤ b → b < hi → σ b = none) →
    Calls P f (List.toArray vals) w fun e w' => ∃ σ' v, e = .returned v ∧ Le σ σ' ∧ (∀ b, σ b = none → (b < lo ∨ hi ≤ b) → σ' b = none) ∧ Rel σ' res v ∧ HFits σ' H' w' ∧
      (∀ b b' r, σ' b = some r → σ' b' = some r → b = b') ∧ (∀ b r, σ' b = some r → r < w'.heap.size) ∧ (∀ b c, hget H' b = some c → (∃ c', hget H b = some c') ∨ ∀ r, σ' b = some r → w.heap.size ≤ r) ∧
      w'.os = w.os ∧ w'.tape = w.tape ∧ w'.output = w.output ∧ w.heap.size ≤ w'.heap.size ∧
      (∀ k, k < w.heap.size → (∀ b c, hget H b = some c → σ b ≠ some k) → w'.heap[k]? = w.heap[k]?)

def CallOk (P : Program) (call : CallR β) : Prop :=
  ∀ f args H lo hi K res, call f args H lo hi K = some res → ∃ r H', K r H' = some res ∧ CallFacts P f args H lo hi r H'

def hpWr (H : Hp) : Wr := H.map fun p => (.blk p.1, p.2)
def covers (H' H : Hp) : Bool := H.all fun p => (hget H' p.1).isSome
def noAv (H : Hp) : Bool := H.all fun p => match p.2 with | .av _ => false | _ => true

theorem hget_hpWr (H : Hp) (b : Nat) : (hpWr H).find? (fun p => decide (p.1 = Loc.blk b)) = (hget H b).map fun c => (Loc.blk b, c) := by
  induction H with
  | nil => rfl
  | cons p H ih =>
    obtain ⟨b', c⟩ := p
    simp only [hpWr, List.map_cons, List.find?_cons, hget]
    by_cases e : b' = b
    · subst e; simp
    · have h1 : decide (Loc.blk b' = Loc.blk b) = false := by simp [e]
      have h2 : Nat.beq b' b = false := by
        cases hb : Nat.beq b' b with
        | false => rfl
        | true => exact absurd (Nat.eq_of_beq_eq_true hb) e
      rw [h1, h2]
      exact ih

theorem hpWr_tmp (H : Hp) (t : Nat) : (hpWr H).find? (fun p => decide (p.1 = Loc.tmp t)) = none := by
  simp [hpWr]

theorem noAv_spec : ∀ {L : Hp}, noAv L = true → ∀ b v, hget L b ≠ some (.av v)
  | [], _, b, v, h => by simp [hget] at h
  | (b', c') :: L, hall, b, v, h => by
    simp only [noAv, List.all_cons, Bool.and_eq_true] at hall
    simp only [hget] at h
    split at h
    · cases h; simp at hall
    · exact noAv_spec (L := L) hall.2 b v h

/-- The caller's state behind a call. -/
theorem Fits.call {N : Nat} {w0 : World} {own : Nat → Prop} {σ σ' : Nat → Option Nat} {u : U} {a : Act} {w w' : World} (hf : Fits N w0 own σ u a w) {H H' : Hp} (hH : ∀ b c, hget H b = some c → u (.blk b) = some c) (hnoH : noAv H = true)
    (hcov : covers H' H = true) (hle : Le σ σ') (hH' : HFits σ' H' w') (hinj : ∀ b b' r, σ' b = some r → σ' b' = some r → b = b') (hbd : ∀ b r, σ' b = some r → r < w'.heap.size)
    (hnew : ∀ b c, hget H' b = some c → (∃ c', hget H b = some c') ∨ ∀ r, σ' b = some r → w.heap.size ≤ r) (hos : w'.os = w.os) (htape : w'.tape = w.tape) (hout : w'.output = w.output) (hsz : w.heap.size ≤ w'.heap.size)
    (hframe : ∀ k, k < w.heap.size → (∀ b c, hget H b = some c → σ b ≠ some k) → w'.heap[k]? = w.heap[k]?) : Fits N w0 own σ' (upd u (hpWr H')) a w' := by
  have hget_cov : ∀ b c, hget H b = some c → ∃ c', hget H' b = some c' := by
    intro b c hb
    have : ∀ (L : Hp), (L.all fun p => (hget H' p.1).isSome) = true → ∀ b c, hget L b = some c → ∃ c', hget H' b = some c' := by
      intro L
      induction L with
      | nil => intro _ b c h; simp [hget] at h
      | cons p L ih =>
        intro hall b c h
        obtain ⟨b', c'⟩ := p
        simp only [List.all_cons, Bool.and_eq_true] at hall
        simp only [hget] at h
        split at h
        · rename_i e
          rw [← Nat.eq_of_beq_eq_true e]
          exact Option.isSome_iff_exists.1 hall.1
        · exact ih hall.2 b c h
    exact this H hcov b c hb
  have old : ∀ b r, hget H' b = none → σ b = some r → w'.heap[r]? = w.heap[r]? := by
    intro b r hb hs
    refine hframe r (hf.bound _ _ hs) fun b' c' h1 h2 => ?_
    obtain ⟨c'', h3⟩ := hget_cov b' c' h1
    rw [hf.inj _ _ _ h2 hs, hb] at h3
    cases h3
  have ownH : ∀ b c, hget H b = some c → ∀ r, σ b = some r → own r ∨ w0.heap.size ≤ r := by
    intro b c hb r hs
    cases c with
    | row e cs => exact hf.ownsR b e cs r (hH _ _ hb) hs
    | obj o => exact hf.ownsO b o r (hH _ _ hb) hs
    | av v => exact absurd hb (noAv_spec hnoH b v)
  have sigH : ∀ b c, hget H b = some c → ∃ r, σ b = some r := by
    intro b c hb
    cases c with
    | row e cs => obtain ⟨r, _, h1, _⟩ := hf.row b e cs (hH _ _ hb); exact ⟨r, h1⟩
    | obj o => obtain ⟨r, h1, _⟩ := hf.obj b o (hH _ _ hb); exact ⟨r, h1⟩
    | av v => exact absurd hb (noAv_spec hnoH b v)
  have ownH' : ∀ b c, hget H' b = some c → ∀ r, σ' b = some r → own r ∨ w0.heap.size ≤ r := by
    intro b c hb r hs
    rcases hnew b c hb with ⟨c', hc'⟩ | h1
    · obtain ⟨r0, h2⟩ := sigH b c' hc'
      have := hle _ _ h2
      rw [hs] at this
      cases this
      exact ownH b c' hc' r h2
    · exact .inr (Nat.le_trans hf.grown (h1 r hs))
  refine ⟨hf.defers, hf.size, fun t v k => ?_, fun b e cs k => ?_, fun b o k => ?_, hinj, hbd, fun b e cs r k hs => ?_, fun b o r k hs => ?_, hos.trans hf.os, htape.trans hf.tape, hout.trans hf.output, Nat.le_trans hf.grown hsz, fun k hk hn => ?_⟩
  · rw [upd_eq, hpWr_tmp] at k
    obtain ⟨x, h1, h2⟩ := hf.tmp t v k
    exact ⟨x, h1, Rel.mono hle _ _ h2⟩
  · rw [upd_eq, hget_hpWr] at k
    cases hb : hget H' b with
    | some c =>
      rw [hb] at k
      simp at k
      subst k
      exact hH' b _ hb
    | none =>
      rw [hb] at k
      obtain ⟨r, vs, h1, h2, h3⟩ := hf.row b e cs k
      exact ⟨r, vs, hle _ _ h1, by rw [old b r hb h1]; exact h2, Rels.mono hle _ _ h3⟩
  · rw [upd_eq, hget_hpWr] at k
    cases hb : hget H' b with
    | some c =>
      rw [hb] at k
      simp at k
      subst k
      exact hH' b _ hb
    | none =>
      rw [hb] at k
      obtain ⟨r, h1, h2⟩ := hf.obj b o k
      exact ⟨r, hle _ _ h1, by rw [old b r hb h1]; exact h2⟩
  · rw [upd_eq, hget_hpWr] at k
    cases hb : hget H' b with
    | some c => exact ownH' b c hb r hs
    | none =>
      rw [hb] at k
      obtain ⟨r1, vs, h1, _⟩ := hf.row b e cs k
      have := hle _ _ h1
      rw [hs] at this
      cases this
      exact hf.ownsR b e cs r k h1
  · rw [upd_eq, hget_hpWr] at k
    cases hb : hget H' b with
    | some c => exact ownH' b c hb r hs
    | none =>
      rw [hb] at k
      obtain ⟨r1, h1, _⟩ := hf.obj b o k
      have := hle _ _ h1
      rw [hs] at this
      cases this
      exact hf.ownsO b o r k h1
  · rw [hframe k (by have := hf.grown; omega) fun b c h1 h2 => ?_]
    · exact hf.frame k hk hn
    · rcases ownH b c h1 k h2 with h3 | h3
      · exact hn h3
      · omega

end Go.Ab
