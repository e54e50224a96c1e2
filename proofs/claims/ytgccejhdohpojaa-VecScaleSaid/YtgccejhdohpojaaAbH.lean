/- A part of the proof of 'VecScale': lemmas, no statement of their own; no condition. -/
import Derived.Test.YtgccejhdohpojaaAbG
namespace Go.Ab
variable {β : Type}
section
variable {P : Program} {N : Nat} {ops : Array Oper} {i : Nat} {tmps : List AV} {heap : Hp} {o : Oper} {lo hi : Nat} {K : Wr → Wr → Option β} {res : β}

theorem Want.append {rd rd' : Wr} (h : Want N ops o rd) : Want N ops o (rd ++ rd') :=
  fun w0 own σ u a w hf hr => h w0 own σ u a w hf fun x hx => hr x (List.mem_append_left _ hx)

theorem opBody_done {call : CallR β} (hcall : CallOk P call) {rd0 : Wr} (ho : ops[i]? = some o) (hw0 : Want N ops o rd0) (hg0 : Good tmps heap rd0) (h : opBody P call N tmps heap o rd0 lo hi K = some res) : Done P N ops i tmps heap lo hi K res := by
  have hw : Want N ops o (rd0 ++ rdAll tmps o) := hw0.append
  have hg : Good tmps heap (rd0 ++ rdAll tmps o) := hg0.append (good_rdAll tmps heap o)
  have hsub : ∀ p ∈ rdAll tmps o, p ∈ rd0 ++ rdAll tmps o := fun p hp => List.mem_append_right _ hp
  unfold opBody at h
  simp only at h
  split at h
  · rename_i x e; exact opMove_done (.inl e) ho hw hg hsub h
  · rename_i x e; exact opMove_done (.inr e) ho hw hg hsub h
  · rename_i c x y e; exact opPick_done e ho hw hg hsub h
  · rename_i x e; exact opNil_done e ho hw hg hsub h
  · rename_i s x f e; exact opField_done e ho hw hg hsub h
  · rename_i t x ix e; exact opIndex_done e ho hw hg hsub h
  · rename_i t x l hh m e
    split at h
    · exact opVal_done ho hw hg hsub h
    · exact opSlice_done e ho hw hg hsub h
  · rename_i t x e; exact opLoad_done e ho hw hg hsub h
  · rename_i t x y e; exact opStore_done e ho hw hg hsub h
  · rename_i t e; exact opAlloc_done e ho hw hg h
  · rename_i t x e; exact opBox_done e ho hw hg hsub h
  · rename_i t len parts e; exact opBuildSlice_done e ho hw hg hsub h
  · rename_i fn a b e; exact opMakeFunc_done e ho hw hg hsub h
  · rename_i x ix e; exact opExtract_done e ho hw hg hsub h
  · rename_i c e; exact opCall_done hcall e ho hw hg hsub h
  · rename_i op t x y ty e; exact opBin_done e ho hw hg hsub h
  · rename_i t r e; exact opMakeMap_done e ho hw hg h
  · rename_i t m x y e; exact opPut_done (.inl e) ho hw hg hsub h
  · rename_i t m x y e; exact opPut_done (.inr e) ho hw hg hsub h
  · rename_i t m x ok e; exact opLook_done e ho hw hg hsub h
  all_goals first | exact opVal_done ho hw hg hsub h | cases h

theorem wanted_none {o : Oper} (h : o.guard = none) (rd : Wr) : Want N ops o rd := fun _ _ _ _ _ _ _ _ => by simp [Region.wanted, h]

theorem yielded_of {a : Act} {g t : Nat} {x : Value} (hd : (ops[g]?).bind (·.dst) = some t) (h : a.tmps[t]? = some x) : yielded ops a.tmps g = match x with | .bool b => some b | _ => none := by
  unfold yielded
  rw [hd]
  simp only [Option.bind_some, h]
  cases x <;> rfl

/-- The operation isn't wanted: its temporary is left undefined. -/
theorem skip_done {rd : Wr} (ho : ops[i]? = some o) (hg : Good tmps heap rd) (hno : ∀ w0 own σ u a w, Fits N w0 own σ u a w → (∀ x ∈ rd, u x.1 = some x.2) → Region.wanted o (yielded ops a.tmps) = false)
    (h : fin N o rd (.val undef) [] K = some res) : Done P N ops i tmps heap lo hi K res := by
  unfold fin at h
  split at h
  · rename_i d hd
    split at h
    · rename_i hlt
      refine ⟨rd, _, h, hg, fun Q w0 own σ u a w hf hr hn K' hK => ?_⟩
      unfold wpOp
      rw [ho]
      simp only
      rw [if_neg (by rw [hno w0 own σ u a w hf hr]; simp)]
      refine hK σ _ w (Le.refl σ) (fun _ h _ => h) ?_
      rw [hd]
      exact hf.put (of_decide_eq_true hlt) (by simp [Rel])
    · cases h
  · rename_i hd
    refine ⟨rd, _, h, hg, fun Q w0 own σ u a w hf hr hn K' hK => ?_⟩
    unfold wpOp
    rw [ho]
    simp only
    rw [if_neg (by rw [hno w0 own σ u a w hf hr]; simp)]
    refine hK σ _ w (Le.refl σ) (fun _ h _ => h) ?_
    rw [hd]
    exact hf

theorem conc_self {c : Operand} {b : Bool} (h : opd tmps c = some (.val (.bool b))) : conc tmps c b = tmps := by
  cases c with
  | tmp t =>
    simp only [opd] at h
    simp only [conc]
    apply List.ext_getElem?
    intro k
    by_cases e : t = k
    · subst e
      have hlt := (List.getElem?_eq_some_iff.1 h).1
      rw [h]
      simp [hlt]
    · rw [List.getElem?_set_ne e]
  | _ => rfl

theorem opRun_done {call : CallR β} {K : List AV → Wr → Wr → Option β} (hcall : CallOk P call) (ho : ops[i]? = some o) (h : opRun P call N ops tmps heap o lo hi K = some res) : Done P N ops i tmps heap lo hi (K tmps) res := by
  unfold opRun at h
  split at h
  · rename_i hgd
    exact opBody_done hcall ho (wanted_none hgd []) (fun x hx => by cases hx) h
  · rename_i g want hgd
    split at h
    · cases h
    · rename_i t hd
      split at h
      · rename_i b hb
        have hgood : Good tmps heap [(.tmp t, .av (.val (.bool b)))] := by
          intro x hx; simp at hx; subst hx; simp [stU, hb]
        have hy : ∀ (w0 : World) (own : Nat → Prop) (σ : Nat → Option Nat) (u : U) (a : Act) (w : World), Fits N w0 own σ u a w → (∀ x ∈ [((Loc.tmp t, Con.av (.val (.bool b))) : Loc × Con)], u x.1 = some x.2) → yielded ops a.tmps g = some b := by
          intro w0 own σ u a w hf hr
          obtain ⟨x, h1, h2⟩ := hf.tmp t _ (hr _ (List.mem_singleton.2 rfl))
          simp only [Rel] at h2
          subst h2
          rw [yielded_of hd h1]
        have yes : want = b → Want N ops o [(.tmp t, .av (.val (.bool b)))] := by
          intro e w0 own σ u a w hf hr
          simp only [Region.wanted, hgd, hy w0 own σ u a w hf hr, e]
          simp
        have no : want ≠ b → ∀ (w0 : World) (own : Nat → Prop) (σ : Nat → Option Nat) (u : U) (a : Act) (w : World), Fits N w0 own σ u a w → (∀ x ∈ [((Loc.tmp t, Con.av (.val (.bool b))) : Loc × Con)], u x.1 = some x.2) → Region.wanted o (yielded ops a.tmps) = false := by
          intro e w0 own σ u a w hf hr
          simp only [Region.wanted, hgd, hy w0 own σ u a w hf hr]
          simpa using fun h => e h.symm
        split at h
        · cases b with
          | true => rw [cond_true, conc_self (c := .tmp t) hb] at h; exact opBody_done hcall ho (yes rfl) hgood h
          | false => rw [cond_false, conc_self (c := .tmp t) hb] at h; exact skip_done ho hgood (no (by simp)) h
        · cases b with
          | true => rw [cond_true, conc_self (c := .tmp t) hb] at h; exact skip_done ho hgood (no (by simp)) h
          | false => rw [cond_false, conc_self (c := .tmp t) hb] at h; exact opBody_done hcall ho (yes rfl) hgood h
      · rename_i vs hb
        have hgood : Good tmps heap [(.tmp t, .av (.val (.tuple vs)))] := by
          intro x hx; simp at hx; subst hx; simp [stU, hb]
        refine skip_done ho hgood (fun w0 own σ u a w hf hr => ?_) h
        obtain ⟨x, h1, h2⟩ := hf.tmp t _ (hr _ (List.mem_singleton.2 rfl))
        simp only [Rel] at h2
        subst h2
        simp only [Region.wanted, hgd, yielded_of hd h1]
        simp
      · cases h
end

/-! ### regions -/
structure St where
  tmps : List AV
  heap : Hp
  lo : Nat
  hi : Nat
  step : Nat
  log : List Loc

def St.u (s : St) : U := stU s.tmps s.heap

def wr1 (tmps : List AV) (heap : Hp) : Loc × Con → List AV × Hp
  | (.tmp t, .av a) => (tmps.set t a, heap)
  | (.tmp _, _) => ([], heap)
  | (.blk b, c) => (tmps, put heap b c)
where put : Hp → Nat → Con → Hp
  | [], b, c => [(b, c)]
  | (b', c') :: r, b, c => match Nat.beq b' b with
    | true => (b, c) :: r
    | false => (b', c') :: put r b c

/-- The last of the list first: the first stands in the end. -/
def wrAll (tmps : List AV) (heap : Hp) : Wr → List AV × Hp
  | [] => (tmps, heap)
  | x :: r => let q := wrAll tmps heap r; wr1 q.1 q.2 x

theorem hget_put (heap : Hp) (b b' : Nat) (c : Con) : hget (wr1.put heap b c) b' = if b' = b then some c else hget heap b' := by
  induction heap with
  | nil =>
    simp only [wr1.put, hget]
    by_cases e : b' = b
    · subst e; simp
    · have : Nat.beq b b' = false := by
        cases hb : Nat.beq b b' with
        | false => rfl
        | true => exact absurd (Nat.eq_of_beq_eq_true hb).symm e
      simp [this, e]
  | cons p heap ih =>
    obtain ⟨x, cx⟩ := p
    simp only [wr1.put]
    split
    · rename_i e
      have e := Nat.eq_of_beq_eq_true e
      subst e
      simp only [hget]
      by_cases e2 : b' = x
      · subst e2; simp
      · have : Nat.beq x b' = false := by
          cases hb : Nat.beq x b' with
          | false => rfl
          | true => exact absurd (Nat.eq_of_beq_eq_true hb).symm e2
        simp [this, e2]
    · rename_i e
      simp only [hget, ih]
      split
      · rename_i e2
        have e2 := Nat.eq_of_beq_eq_true e2
        subst e2
        rw [if_neg]
        intro e3
        rw [e3] at e
        simp at e
      · rfl

theorem wr1_sub (tmps : List AV) (heap : Hp) (x : Loc × Con) : Sub (stU (wr1 tmps heap x).1 (wr1 tmps heap x).2) (upd1 (stU tmps heap) x.1 x.2) := by
  obtain ⟨l, c⟩ := x
  intro l' c' h
  cases l with
  | tmp t =>
    cases c with
    | av a =>
      simp only [wr1] at h
      cases l' with
      | tmp t' =>
        simp only [stU, upd1] at h ⊢
        by_cases e : t' = t
        · subst e
          rcases Nat.lt_or_ge t' tmps.length with hl | hl
          · simp [hl] at h; simp [h]
          · simp [List.getElem?_eq_none (show (tmps.set t' a).length ≤ t' by simpa using hl)] at h
        · rw [List.getElem?_set_ne (Ne.symm e)] at h
          simp [e, h]
      | blk b => simpa [stU, upd1] using h
    | row e cs =>
      simp only [wr1] at h
      cases l' with
      | tmp t' => simp [stU] at h
      | blk b => simpa [stU, upd1] using h
    | obj ob =>
      simp only [wr1] at h
      cases l' with
      | tmp t' => simp [stU] at h
      | blk b => simpa [stU, upd1] using h
  | blk b =>
    simp only [wr1] at h
    cases l' with
    | tmp t' => simpa [stU, upd1] using h
    | blk b' =>
      simp only [stU, upd1, hget_put] at h ⊢
      simpa using h

end Go.Ab
