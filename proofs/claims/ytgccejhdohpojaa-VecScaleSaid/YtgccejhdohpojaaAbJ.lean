/- A part of the proof of 'VecScale': lemmas, no statement of their own; no condition. -/
import Derived.Test.YtgccejhdohpojaaAbI
namespace Go.Ab
variable {β : Type}

/-! ### the check of a region that asks the tape -/
def locEq : Loc → Loc → Bool
  | .tmp a, .tmp b => Nat.beq a b
  | .blk a, .blk b => Nat.beq a b
  | _, _ => false
theorem locEq_spec {a b : Loc} (h : locEq a b = false) : a ≠ b := by
  intro e
  subst e
  cases a <;> simp [locEq] at h
structure Foot where
  rd : List Loc
  wr : List Loc
def disjL (a b : List Loc) : Bool := a.all fun x => b.all fun y => !locEq x y
theorem disjL_spec {a b : List Loc} (h : disjL a b = true) : ∀ x ∈ a, ∀ y ∈ b, x ≠ y := by
  intro x hx y hy
  have := List.all_eq_true.1 (List.all_eq_true.1 h x hx) y hy
  exact locEq_spec (by simpa using this)
def indepF (a b : Foot) : Bool := disjL a.wr b.rd && disjL a.wr b.wr && disjL a.rd b.wr
def footOf (rd wr : Wr) : Foot := ⟨rd.map (·.1), wr.map (·.1)⟩
def It.foot (it : It) : Foot := footOf it.rd it.wr
theorem indepF_spec {a b : It} (h : indepF a.foot b.foot = true) : Indep a b := by
  simp only [indepF, Bool.and_eq_true] at h
  refine ⟨fun p hp q hq => disjL_spec h.1.1 _ (List.mem_map.2 ⟨p, hp, rfl⟩) _ (List.mem_map.2 ⟨q, hq, rfl⟩), fun p hp q hq => disjL_spec h.1.2 _ (List.mem_map.2 ⟨p, hp, rfl⟩) _ (List.mem_map.2 ⟨q, hq, rfl⟩), fun p hp q hq => disjL_spec h.2 _ (List.mem_map.2 ⟨p, hp, rfl⟩) _ (List.mem_map.2 ⟨q, hq, rfl⟩)⟩

def binding (o : Oper) : List Nat := o.after.toList.filterMap fun e => match Region.binds .any e with | true => some e.on | false => none
theorem mem_binding {o : Oper} {k : Nat} : k ∈ binding o ↔ ∃ e ∈ o.after, Region.binds .any e = true ∧ e.on = k := by
  unfold binding
  rw [List.mem_filterMap]
  constructor
  · rintro ⟨e, he, h⟩
    cases hb : Region.binds .any e with
    | true => rw [hb] at h; simp at h; exact ⟨e, by simpa using he, hb, h⟩
    | false => rw [hb] at h; cases h
  · rintro ⟨e, he, hb, rfl⟩
    exact ⟨e, by simpa using he, by rw [hb]⟩

def orAll (acc : List Nat) : List Nat → Nat
  | [] => 0
  | e :: r => (2 ^ e ||| (acc[e]?).getD 0) ||| orAll acc r
theorem orAll_spec (acc : List Nat) : ∀ (l : List Nat) (p : Nat), (orAll acc l).testBit p = true → ∃ e ∈ l, p = e ∨ ∃ m : Nat, acc[e]? = some m ∧ m.testBit p = true
  | [], p, h => by simp [orAll] at h
  | e :: r, p, h => by
    simp only [orAll, Nat.testBit_or, Bool.or_eq_true] at h
    rcases h with (h | h) | h
    · refine ⟨e, by simp, .inl ?_⟩
      rw [Nat.testBit_two_pow] at h
      simp at h; exact h.symm
    · cases hm : acc[e]? with
      | none => simp [hm] at h
      | some m => rw [hm] at h; exact ⟨e, by simp, .inr ⟨m, hm, by simpa using h⟩⟩
    · obtain ⟨e', h1, h2⟩ := orAll_spec acc r p h
      exact ⟨e', by simp [h1], h2⟩

/-- n brought to a numeral ahead of what goes on with it. -/
def forceN {γ : Type} (n : Nat) (k : Nat → γ) : γ := match n with | 0 => k 0 | m + 1 => k (m + 1)
theorem forceN_eq {γ : Type} (n : Nat) (k : Nat → γ) : forceN n k = k n := by cases n <;> rfl

def befs : List Oper → List Nat → List Nat
  | [], acc => acc
  | o :: r, acc => forceN (orAll acc (binding o)) fun m => befs r (acc ++ [m])

def BefOk (done : List Oper) (acc : List Nat) : Prop :=
  acc.length = done.length ∧ ∀ (j : Nat) (o : Oper) (m : Nat), done[j]? = some o → acc[j]? = some m → ∀ p, m.testBit p = true → ∃ e ∈ binding o, p = e ∨ ∃ m' : Nat, acc[e]? = some m' ∧ m'.testBit p = true

theorem befs_ok : ∀ (l done : List Oper) (acc : List Nat), BefOk done acc → BefOk (done ++ l) (befs l acc)
  | [], done, acc, h => by simpa [befs] using h
  | o :: r, done, acc, h => by
    simp only [befs, forceN_eq]
    have : done ++ o :: r = (done ++ [o]) ++ r := by simp
    rw [this]
    refine befs_ok r (done ++ [o]) _ ⟨by simp [h.1], fun j o' m hj hm p hp => ?_⟩
    have lift : ∀ e m', acc[e]? = some m' → (acc ++ [orAll acc (binding o)])[e]? = some m' := fun e m' he => by
      rw [List.getElem?_append_left (List.getElem?_eq_some_iff.1 he).1]; exact he
    by_cases hjl : j < done.length
    · rw [List.getElem?_append_left hjl] at hj
      rw [List.getElem?_append_left (by rw [h.1]; exact hjl)] at hm
      obtain ⟨e, h1, h2⟩ := h.2 j o' m hj hm p hp
      exact ⟨e, h1, h2.imp id fun ⟨m', h3, h4⟩ => ⟨m', lift e m' h3, h4⟩⟩
    · rw [List.getElem?_append_right (by omega)] at hj
      rw [List.getElem?_append_right (by rw [h.1]; omega)] at hm
      have e0 : j - done.length = 0 := by
        have := (List.getElem?_eq_some_iff.1 hj).1
        simp at this; omega
      rw [e0] at hj
      rw [h.1, e0] at hm
      simp at hj hm
      subst hj hm
      obtain ⟨e, h1, h2⟩ := orAll_spec acc _ p hp
      exact ⟨e, h1, h2.imp id fun ⟨m', h3, h4⟩ => ⟨m', lift e m' h3, h4⟩⟩

def edgesOk : Nat → List Oper → Bool
  | _, [] => true
  | k, o :: r => (binding o).all (fun e => Nat.blt e k) && edgesOk (k + 1) r
theorem edgesOk_spec : ∀ (l : List Oper) (k : Nat), edgesOk k l = true → ∀ (j : Nat) (o : Oper), l[j]? = some o → ∀ e ∈ binding o, e < k + j
  | [], _, _, j, o, h, _, _ => by simp at h
  | o' :: r, k, h, j, o, hj, e, he => by
    simp only [edgesOk, Bool.and_eq_true] at h
    cases j with
    | zero =>
      simp at hj; subst hj
      have := List.all_eq_true.1 h.1 e he
      simpa [Nat.blt_eq] using this
    | succ j =>
      simp at hj
      have := edgesOk_spec r (k + 1) h.2 j o hj e he
      omega

/-- Those ahead of a listed one are listed. -/
theorem listed_bef {ops : Array Oper} {ls : Array Bool} (hcl : Closed ops ls) (hed : edgesOk 0 ops.toList = true) {B : List Nat} (hB : BefOk ops.toList B) :
    ∀ (n e : Nat), e < n → ls.getD e false = true → ∀ m p : Nat, B[e]? = some m → m.testBit p = true → ls.getD p false = true := by
  intro n
  induction n with
  | zero => intro e h; omega
  | succ n ih =>
    intro e he hl m p hm hp
    have hlt : e < ops.toList.length := by rw [← hB.1]; exact (List.getElem?_eq_some_iff.1 hm).1
    obtain ⟨o, ho⟩ : ∃ o, ops.toList[e]? = some o := ⟨_, List.getElem?_eq_getElem hlt⟩
    obtain ⟨e', h1, h2⟩ := hB.2 e o m ho hm p hp
    have hlt' := edgesOk_spec _ 0 hed e o ho e' h1
    obtain ⟨ed, h3, h4, h5⟩ := mem_binding.1 h1
    have hl' : ls.getD e' false = true := by rw [← h5]; exact hcl e o (by simpa using ho) hl ed h3 h4
    rcases h2 with rfl | ⟨m', h6, h7⟩
    · exact hl'
    · exact ih e' (by omega) hl' m' p h6 h7

def chk : Nat → List (Nat × Foot) → List Foot → List Nat → Bool
  | k, prev, f :: fs, m :: ms => (prev.all fun q => m.testBit q.1 || indepF q.2 f) && chk (k + 1) ((k, f) :: prev) fs ms
  | _, _, [], _ => true
  | _, _, _ :: _, [] => false

theorem chk_spec : ∀ (fs : List Foot) (ms : List Nat) (k : Nat) (prev : List (Nat × Foot)), chk k prev fs ms = true →
    (∀ q ∈ prev, ∀ (j : Nat) (f : Foot) (m : Nat), fs[j]? = some f → ms[j]? = some m → m.testBit q.1 = true ∨ indepF q.2 f = true) ∧
    (∀ (a b : Nat) (fa fb : Foot) (mb : Nat), a < b → fs[a]? = some fa → fs[b]? = some fb → ms[b]? = some mb → mb.testBit (k + a) = true ∨ indepF fa fb = true)
  | [], ms, k, prev, _ => ⟨fun q _ j f m h => by simp at h, fun a b fa fb mb _ h => by simp at h⟩
  | f :: fs, [], k, prev, h => by simp [chk] at h
  | f :: fs, m :: ms, k, prev, h => by
    simp only [chk, Bool.and_eq_true] at h
    obtain ⟨h1, h2⟩ := chk_spec fs ms (k + 1) ((k, f) :: prev) h.2
    refine ⟨fun q hq j f' m' hf hm => ?_, fun a b fa fb mb hab ha hb hm => ?_⟩
    · cases j with
      | zero =>
        simp at hf hm; subst hf hm
        have := List.all_eq_true.1 h.1 q hq
        simpa using this
      | succ j => simp at hf hm; exact h1 q (by simp [hq]) j f' m' hf hm
    · cases b with
      | zero => omega
      | succ b =>
        simp at hb hm
        cases a with
        | zero => simp at ha; subst ha; exact h1 (k, f) (by simp) b fb mb hb hm
        | succ a =>
          simp at ha
          have := h2 a b fa fb mb (by omega) ha hb hm
          rwa [show k + 1 + a = k + (a + 1) by omega] at this

/-- May the operations come up in any order that the edges allow? -/
def anyOk (ops : List Oper) (feet : List Foot) : Bool := edgesOk 0 ops && chk 0 [] feet (befs ops [])

section
variable {P : Program} {N : Nat} {ops : Array Oper} {Q : Exit → Act → World → Prop} {w0 : World} {own : Nat → Prop}

theorem wpAny_of_chain {items : List It} (hlen : items.length = ops.size) (hix : ∀ (k : Nat) (it : It), items[k]? = some it → it.i = k) (hok : anyOk ops.toList (items.map It.foot) = true) {u u' : U} {σ : Nat → Option Nat} {a : Act} {w : World}
    (hc : Chain P N ops items u u') (hf : Fits N w0 own σ u a w) (hn : Fresh items σ) (hp : items.Pairwise Apart)
    (hQ : ∀ σ' a' w', Le σ σ' → Out items σ σ' → Fits N w0 own σ' u' a' w' → Q .normal a' w') : wpAny P .any ops Q ops.size (Array.replicate ops.size false) a w := by
  simp only [anyOk, Bool.and_eq_true] at hok
  obtain ⟨hed, hchk⟩ := hok
  have hB : BefOk ops.toList (befs ops.toList []) := by
    have := befs_ok ops.toList [] [] ⟨rfl, fun j o m h => by simp at h⟩
    simpa using this
  have hspec := (chk_spec _ _ 0 [] hchk).2
  have hinc : items.Pairwise fun a b => a.i < b.i := by
    rw [List.pairwise_iff_getElem]
    intro p q hp1 hq1 hpq
    rw [hix p _ (List.getElem?_eq_getElem hp1), hix q _ (List.getElem?_eq_getElem hq1)]
    exact hpq
  have hmem : ∀ it ∈ items, items[it.i]? = some it ∧ it.i < ops.size := by
    intro it hit
    obtain ⟨k, hk, e⟩ := List.getElem_of_mem hit
    have h1 : items[k]? = some it := by rw [List.getElem?_eq_getElem hk, e]
    have := hix k it h1
    rw [this]
    exact ⟨h1, by omega⟩
  refine chain_any ops.size items (Array.replicate ops.size false) u u' σ a w hlen hc hf hn hp (by simp) (fun j hj => ?_) (fun it hit => (hmem it hit).2) ?_ ?_ ?_ ?_ hQ
  · have h1 : (Array.replicate ops.size false).getD j true = false := by simp [hj]
    refine ⟨fun _ => ⟨items[j], List.getElem_mem _, hix j _ (List.getElem?_eq_getElem (by omega))⟩, fun _ => h1⟩
  · rw [List.Nodup, List.pairwise_map]
    exact hinc.imp fun h => Nat.ne_of_lt h
  · intro j o _ h
    by_cases hj : j < ops.size
    · simp [hj] at h
    · simp [hj] at h
  · intro pre post it ls hcl hsub hready hpre p hpp
    have hit : it ∈ items := hsub.subset (by simp)
    have hpit : p ∈ items := hsub.subset (by simp [hpp])
    have hlt : p.i < it.i := by
      have := hinc.sublist hsub
      rw [List.pairwise_append] at this
      exact this.2.2 p hpp it (by simp)
    obtain ⟨h1, o, h2, h3⟩ := mem_ready.1 hready
    obtain ⟨hi1, hi2⟩ := hmem it hit
    obtain ⟨hp1, hp2⟩ := hmem p hpit
    have hm : it.i < (befs ops.toList []).length := by rw [hB.1]; simpa using hi2
    rcases hspec p.i it.i p.foot it.foot (befs ops.toList [])[it.i] hlt (by simp [hp1]) (by simp [hi1]) (List.getElem?_eq_getElem hm) with h | h
    · exfalso
      rw [Nat.zero_add] at h
      obtain ⟨e, h4, h5⟩ := hB.2 it.i o _ (by simpa using h2) (List.getElem?_eq_getElem hm) p.i h
      obtain ⟨ed, h6, h7, h8⟩ := mem_binding.1 h4
      have hl := h3 ed h6 h7
      rw [h8] at hl
      have hpl : ls.getD p.i false = true := by
        rcases h5 with h5 | ⟨m', h9, h10⟩
        · rw [h5]; exact hl
        · exact listed_bef hcl hed hB (e + 1) e (by omega) hl m' p.i h9 h10
      have hpf := hpre p hpp
      rcases Nat.lt_or_ge p.i ls.size with hx | hx
      · simp [hx] at hpl hpf; rw [hpl] at hpf; cases hpf
      · simp [Array.getElem?_eq_none hx] at hpl
    · exact indepF_spec h
  · intro ls l hsz hsub hne hiff hnil
    cases l with
    | nil => exact hne rfl
    | cons it r =>
      have hit : it ∈ items := hsub.subset (by simp)
      obtain ⟨hi1, hi2⟩ := hmem it hit
      have hinc' := hinc.sublist hsub
      rw [List.pairwise_cons] at hinc'
      have : it.i ∈ Region.ready .any ops ls := by
        refine mem_ready.2 ⟨(hiff it.i hi2).2 ⟨it, by simp, rfl⟩, ops[it.i], Array.getElem?_eq_getElem hi2, fun e he hb => ?_⟩
        have hlt := edgesOk_spec _ 0 hed it.i ops[it.i] (by simp [Array.getElem?_eq_getElem hi2]) e.on (mem_binding.2 ⟨e, he, hb, rfl⟩)
        rw [Nat.zero_add] at hlt
        have hlt2 : e.on < ls.size := by omega
        cases hv : ls.getD e.on true with
        | false =>
          obtain ⟨x, hx, hxe⟩ := (hiff e.on (by omega)).1 hv
          simp only [List.mem_cons] at hx
          rcases hx with rfl | hx
          · omega
          · have := hinc'.1 x hx; omega
        | true => simp [hlt2] at hv ⊢; exact hv
      rw [hnil] at this
      cases this
end
end Go.Ab
