/- A part of the proof of 'VecScale': lemmas, no statement of their own; no condition. -/
import Derived.Test.YtgccejhdohpojaaAbL
namespace Go.Ab
variable {β : Type}

/-! ### renaming blocks -/
mutual
def renO (ρ : Nat → Option Nat) : AV → Option AV
  | .val v => some (.val v)
  | .ptr b off => match ρ b with | some b' => some (.ptr b' off) | none => none
  | .slice b off len cap => match ρ b with | some b' => some (.slice b' off len cap) | none => none
  | .agg cs => match renL ρ cs with | some l => some (.agg l) | none => none
  | .tuple cs => match renL ρ cs with | some l => some (.tuple l) | none => none
  | .func f a b => match renL ρ a, renL ρ b with | some x, some y => some (.func f x y) | _, _ => none
  | .map b => match ρ b with | some b' => some (.map b') | none => none
  | .any => some .any
def renL (ρ : Nat → Option Nat) : List AV → Option (List AV)
  | [] => some []
  | a :: as => match renO ρ a, renL ρ as with | some x, some y => some (x :: y) | _, _ => none
end

def Ties (ρ σ σ' : Nat → Option Nat) : Prop := ∀ b b', ρ b = some b' → ∀ r, σ b = some r → σ' b' = some r

mutual
theorem renO_rel {ρ σ σ' : Nat → Option Nat} (h : Ties ρ σ σ') : ∀ (a a' : AV) (v : Value), renO ρ a = some a' → Rel σ a v → Rel σ' a' v
  | .val _, _, _, e, k => by simp only [renO, Option.some.injEq] at e; subst e; simpa only [Rel] using k
  | .ptr b off, _, _, e, k => by
    simp only [renO] at e
    split at e
    · rename_i b' hb; cases e; simp only [Rel] at k ⊢; obtain ⟨r, h1, h2⟩ := k; exact ⟨r, h b b' hb r h1, h2⟩
    · cases e
  | .slice b off len cap, _, _, e, k => by
    simp only [renO] at e
    split at e
    · rename_i b' hb; cases e; simp only [Rel] at k ⊢; obtain ⟨r, h1, h2⟩ := k; exact ⟨r, h b b' hb r h1, h2⟩
    · cases e
  | .agg cs, _, _, e, k => by
    simp only [renO] at e
    split at e
    · rename_i l hl; cases e; simp only [Rel] at k ⊢; obtain ⟨vs, h1, h2⟩ := k; exact ⟨vs, h1, renL_rel h cs l vs hl h2⟩
    · cases e
  | .tuple cs, _, _, e, k => by
    simp only [renO] at e
    split at e
    · rename_i l hl; cases e; simp only [Rel] at k ⊢; obtain ⟨vs, h1, h2⟩ := k; exact ⟨vs, h1, renL_rel h cs l vs hl h2⟩
    · cases e
  | .func f a b, _, _, e, k => by
    simp only [renO] at e
    split at e
    · rename_i x y hx hy; cases e; simp only [Rel] at k ⊢; obtain ⟨xs, ys, h1, h2, h3⟩ := k; exact ⟨xs, ys, h1, renL_rel h a x xs hx h2, renL_rel h b y ys hy h3⟩
    · cases e
  | .map b, _, _, e, k => by
    simp only [renO] at e
    split at e
    · rename_i b' hb; cases e; simp only [Rel] at k ⊢; obtain ⟨r, h1, h2⟩ := k; exact ⟨r, h b b' hb r h1, h2⟩
    · cases e
  | .any, _, _, e, _ => by simp only [renO, Option.some.injEq] at e; subst e; simp only [Rel]
theorem renL_rel {ρ σ σ' : Nat → Option Nat} (h : Ties ρ σ σ') : ∀ (a a' : List AV) (v : List Value), renL ρ a = some a' → Rels σ a v → Rels σ' a' v
  | [], _, _, e, k => by simp only [renL, Option.some.injEq] at e; subst e; simpa only [Rels] using k
  | a :: as, _, _, e, k => by
    simp only [renL] at e
    split at e
    · rename_i x y hx hy
      cases e
      simp only [Rels] at k ⊢
      obtain ⟨v, vs, h1, h2, h3⟩ := k
      exact ⟨v, vs, h1, renO_rel h a x v hx h2, renL_rel h as y vs hy h3⟩
    · cases e
end

def renC (ρ : Nat → Option Nat) : Con → Option Con
  | .row e cs => match renL ρ cs with | some l => some (.row e l) | none => none
  | .obj o => some (.obj o)
  | .av _ => none
def renCs (ρ : Nat → Option Nat) : List Con → Option (List Con)
  | [] => some []
  | c :: cs => match renC ρ c, renCs ρ cs with | some x, some y => some (x :: y) | _, _ => none
theorem renCs_get {ρ : Nat → Option Nat} : ∀ {cs cs' : List Con} {i : Nat} {c' : Con}, renCs ρ cs = some cs' → cs'[i]? = some c' → ∃ c, cs[i]? = some c ∧ renC ρ c = some c'
  | [], _, i, c', h, k => by simp only [renCs, Option.some.injEq] at h; subst h; simp at k
  | c :: cs, _, i, c', h, k => by
    simp only [renCs] at h
    split at h
    · rename_i x y hx hy
      cases h
      cases i with
      | zero => simp at k; subst k; exact ⟨c, rfl, hx⟩
      | succ i => simp at k ⊢; exact renCs_get hy k
    · cases h
theorem renCs_length {ρ : Nat → Option Nat} : ∀ {cs cs' : List Con}, renCs ρ cs = some cs' → cs'.length = cs.length
  | [], _, h => by simp only [renCs, Option.some.injEq] at h; subst h; rfl
  | c :: cs, _, h => by
    simp only [renCs] at h
    split at h
    · rename_i x y hx hy; cases h; simp [renCs_length hy]
    · cases h

theorem renC_fits {ρ σ σ' : Nat → Option Nat} (h : Ties ρ σ σ') {c c' : Con} {w : World} {b b' r : Nat} (hr : renC ρ c = some c') (hb : σ b = some r) (hb' : σ' b' = some r) (k : ConFits σ w b c) : ConFits σ' w b' c' := by
  cases c with
  | row e cs =>
    simp only [renC] at hr
    split at hr
    · rename_i l hl
      cases hr
      obtain ⟨r1, vs, h1, h2, h3⟩ := k
      rw [hb] at h1; cases h1
      exact ⟨r, vs, hb', h2, renL_rel h cs l vs hl h3⟩
    · cases hr
  | obj o =>
    simp only [renC, Option.some.injEq] at hr; subst hr
    obtain ⟨r1, h1, h2⟩ := k
    rw [hb] at h1; cases h1
    exact ⟨r, hb', h2⟩
  | av a => simp [renC] at hr

def numH : Nat → List Con → Hp
  | _, [] => []
  | k, c :: r => (k, c) :: numH (k + 1) r
theorem hget_numH : ∀ (cs : List Con) (k b : Nat), hget (numH k cs) b = if k ≤ b then cs[b - k]? else none
  | [], k, b => by simp [numH, hget]
  | c :: cs, k, b => by
    simp only [numH, hget]
    by_cases e : k = b
    · subst e; simp
    · have h2 : Nat.beq k b = false := by
        cases hb : Nat.beq k b with
        | false => rfl
        | true => exact absurd (Nat.eq_of_beq_eq_true hb) e
      rw [h2, hget_numH cs (k + 1) b]
      by_cases h : k ≤ b
      · rw [if_pos h, if_pos (by omega)]
        have : b - k = (b - (k + 1)) + 1 := by omega
        rw [this, List.getElem?_cons_succ]
      · rw [if_neg h, if_neg (by omega)]

/-- What a summary tells: a result and what the blocks hold then; no word; or a test. -/
inductive STr where
  | ret (r : AV) (cs : List Con)
  | no
  | test (b : Bool) (t e : STr)
def STr.sel : STr → Option (AV × List Con)
  | .ret r cs => some (r, cs)
  | .no => none
  | .test b t e => cond b t.sel e.sel
abbrev Summary := List AV → List Con → STr
def SumOk (P : Program) (f : FuncId) (S : Summary) : Prop :=
  ∀ args cs r cs', (S args cs).sel = some (r, cs') → cs'.length = cs.length ∧ CallFacts P f args (numH 0 cs) 0 0 r (numH 0 cs')

def posOf : Nat → List Nat → Nat → Option Nat
  | _, [], _ => none
  | k, x :: r, b => match Nat.beq x b with | true => some k | false => posOf (k + 1) r b
theorem posOf_spec : ∀ (L : List Nat) (k b i : Nat), posOf k L b = some i → k ≤ i ∧ L[i - k]? = some b
  | [], k, b, i, h => by simp [posOf] at h
  | x :: r, k, b, i, h => by
    simp only [posOf] at h
    split at h
    · rename_i e; cases h; simp [Nat.eq_of_beq_eq_true e]
    · obtain ⟨h1, h2⟩ := posOf_spec r (k + 1) b i h
      refine ⟨by omega, ?_⟩
      have : i - k = (i - (k + 1)) + 1 := by omega
      rw [this, List.getElem?_cons_succ]; exact h2
def nodupN : List Nat → Bool
  | [] => true
  | x :: r => !hasN r x && nodupN r
theorem hasN_spec : ∀ (l : List Nat) (b : Nat), b ∈ l → hasN l b = true
  | [], b, h => by cases h
  | x :: r, b, h => by
    simp only [hasN]
    split
    · rfl
    · rename_i e
      rcases List.mem_cons.1 h with rfl | h
      · simp at e
      · exact hasN_spec r b h
theorem nodupN_spec : ∀ {l : List Nat}, nodupN l = true → l.Nodup
  | [], _ => List.nodup_nil
  | x :: r, h => by
    simp only [nodupN, Bool.and_eq_true, Bool.not_eq_true'] at h
    refine List.nodup_cons.2 ⟨fun hm => ?_, nodupN_spec h.2⟩
    rw [hasN_spec r x hm] at h
    cases h.1
def conts (H : Hp) : List Nat → Option (List Con)
  | [] => some []
  | b :: r => match hget H b, conts H r with | some c, some l => some (c :: l) | _, _ => none
theorem conts_get {H : Hp} : ∀ {L : List Nat} {cs : List Con} {i b : Nat}, conts H L = some cs → L[i]? = some b → ∃ c, cs[i]? = some c ∧ hget H b = some c
  | [], cs, i, b, _, k => by simp at k
  | x :: L, cs, i, b, h, k => by
    simp only [conts] at h
    split at h
    · rename_i c l hc hl
      cases h
      cases i with
      | zero => simp at k; subst k; exact ⟨c, rfl, hc⟩
      | succ i => simp at k ⊢; exact conts_get hl k
    · cases h
theorem conts_length {H : Hp} : ∀ {L : List Nat} {cs : List Con}, conts H L = some cs → cs.length = L.length
  | [], cs, h => by simp only [conts, Option.some.injEq] at h; subst h; rfl
  | x :: L, cs, h => by
    simp only [conts] at h
    split at h
    · rename_i c l hc hl; cases h; simp [conts_length hl]
    · cases h
def zipH : List Nat → List Con → Hp
  | b :: L, c :: cs => (b, c) :: zipH L cs
  | _, _ => []
theorem hget_zipH : ∀ {L : List Nat} {cs : List Con} {b : Nat} {c : Con}, hget (zipH L cs) b = some c → ∃ i : Nat, L[i]? = some b ∧ cs[i]? = some c
  | [], cs, b, c, h => by simp [zipH, hget] at h
  | x :: L, [], b, c, h => by simp [zipH, hget] at h
  | x :: L, y :: cs, b, c, h => by
    simp only [zipH, hget] at h
    split at h
    · rename_i e; cases h; exact ⟨0, by simp [Nat.eq_of_beq_eq_true e], rfl⟩
    · obtain ⟨i, h1, h2⟩ := hget_zipH h; exact ⟨i + 1, by simpa using h1, by simpa using h2⟩

def STr.fold (K : AV → List Con → Option β) : STr → Option β
  | .ret r cs => K r cs
  | .no => none
  | .test b t e => cond b (t.fold K) (e.fold K)
theorem STr.fold_sel (K : AV → List Con → Option β) : ∀ t : STr, t.fold K = match t.sel with | some (r, cs) => K r cs | none => none
  | .ret r cs => rfl
  | .no => rfl
  | .test b t e => by
    simp only [STr.fold, STr.sel]
    cases b
    · exact STr.fold_sel K e
    · exact STr.fold_sel K t

def sumRun (S : Summary) (args : List AV) (H : Hp) (K : AV → Hp → Option β) : Option β :=
  let L := (H.map (·.1)).reverse
  match nodupN L, renL (posOf 0 L) args, conts H L with
  | true, some args', some cs => match renCs (posOf 0 L) cs with
    | some cs' => (S args' cs').fold fun r cs2 => match renO (fun i => L[i]?) r, renCs (fun i => L[i]?) cs2 with
        | some r', some cs3 => K r' (zipH L cs3)
        | _, _ => none
    | none => none
  | _, _, _ => none

theorem sumRun_ok {P : Program} {f : FuncId} {S : Summary} (hS : SumOk P f S) {args : List AV} {H : Hp} {lo hi : Nat} {K : AV → Hp → Option β} {res : β} (h : sumRun S args H K = some res) :
    ∃ r H', K r H' = some res ∧ CallFacts P f args H lo hi r H' := by
  unfold sumRun at h
  simp only at h
  split at h
  · rename_i args' cs hnd hargs hcs
    have hnd := nodupN_spec hnd
    split at h
    · rename_i cs' hcs'
      rw [STr.fold_sel] at h
      split at h
      · rename_i r cs2 hSr
        split at h
        · rename_i r' cs3 hr' hcs3
          obtain ⟨hlen, hfacts⟩ := hS _ _ _ _ hSr
          refine ⟨r', _, h, fun σ vals w hinj hbd hvals hH hn => ?_⟩
          let L := (H.map (·.1)).reverse
          let σc : Nat → Option Nat := fun i => (L[i]?).bind σ
          have hσc : ∀ i r, σc i = some r → ∃ b, L[i]? = some b ∧ σ b = some r := by
            intro i r hi
            simp only [σc] at hi
            cases hL : L[i]? with
            | none => simp [hL] at hi
            | some b => rw [hL] at hi; exact ⟨b, rfl, by simpa using hi⟩
          have t1 : Ties (posOf 0 L) σ σc := by
            intro b i hp r hr
            have := (posOf_spec L 0 b i hp).2
            simp only [Nat.sub_zero] at this
            simp [σc, this, hr]
          have hinjc : ∀ b b' r, σc b = some r → σc b' = some r → b = b' := by
            intro i j r h1 h2
            obtain ⟨b, h3, h4⟩ := hσc i r h1
            obtain ⟨b', h5, h6⟩ := hσc j r h2
            have := hinj _ _ _ h4 h6
            subst this
            have hi := (List.getElem?_eq_some_iff.1 h3)
            have hj := (List.getElem?_eq_some_iff.1 h5)
            obtain ⟨hi1, hi2⟩ := hi
            obtain ⟨hj1, hj2⟩ := hj
            exact (List.getElem_inj hnd).1 (hi2.trans hj2.symm)
          have hHc : HFits σc (numH 0 cs') w := by
            intro i c' hi
            rw [hget_numH, if_pos (Nat.zero_le _), Nat.sub_zero] at hi
            obtain ⟨c, h1, h2⟩ := renCs_get hcs' hi
            have hlt : i < L.length := by
              rw [← conts_length hcs]
              exact (List.getElem?_eq_some_iff.1 h1).1
            obtain ⟨c2, h3, h4⟩ := conts_get hcs (List.getElem?_eq_getElem hlt)
            rw [h1] at h3
            cases h3
            have hfit := hH _ _ h4
            cases c with
            | av a => simp [renC] at h2
            | row e cc =>
              obtain ⟨r0, vs, h5, h6⟩ := hfit
              exact renC_fits t1 h2 h5 (by simp [σc, hlt]; exact h5) ⟨r0, vs, h5, h6⟩
            | obj o =>
              obtain ⟨r0, h5, h6⟩ := hfit
              exact renC_fits t1 h2 h5 (by simp [σc, hlt]; exact h5) ⟨r0, h5, h6⟩
          refine Calls.mono (hfacts σc vals w hinjc (fun i r hi => by obtain ⟨b, _, h4⟩ := hσc i r hi; exact hbd b r h4) (renL_rel t1 _ _ _ hargs hvals) hHc (fun b h1 h2 => by omega)) fun e w' he => ?_
          obtain ⟨σ', v, rfl, p1, p2, p3, p4, p5, p6, p7, p8, p9, p10, p11, p12⟩ := he
          have hσ' : ∀ i, σ' i = σc i := by
            intro i
            cases hi : σc i with
            | some r => exact p1 i r hi
            | none => exact p2 i hi (.inr (Nat.zero_le _))
          have t2 : Ties (fun i => L[i]?) σ' σ := by
            intro i b hi r hr
            rw [hσ' i] at hr
            obtain ⟨b2, h3, h4⟩ := hσc i r hr
            simp only at hi
            rw [hi] at h3
            cases h3
            exact h4
          refine ⟨σ, v, rfl, Le.refl σ, fun _ h _ => h, renO_rel t2 _ _ _ hr' p3, ?_, hinj, fun b r hb => Nat.lt_of_lt_of_le (hbd b r hb) p11, ?_, p8, p9, p10, p11, ?_⟩
          · intro b c hb
            obtain ⟨i, h1, h2⟩ := hget_zipH hb
            obtain ⟨c0, h3, h4⟩ := renCs_get hcs3 h2
            have hfit := p4 i c0 (by rw [hget_numH, if_pos (Nat.zero_le _), Nat.sub_zero]; exact h3)
            cases c0 with
            | av a => simp [renC] at h4
            | row e cc =>
              obtain ⟨r0, vs, h5, h6⟩ := hfit
              exact renC_fits t2 h4 h5 (t2 i b h1 r0 h5) ⟨r0, vs, h5, h6⟩
            | obj o =>
              obtain ⟨r0, h5, h6⟩ := hfit
              exact renC_fits t2 h4 h5 (t2 i b h1 r0 h5) ⟨r0, h5, h6⟩
          · intro b c hb
            obtain ⟨i, h1, h2⟩ := hget_zipH hb
            obtain ⟨c2, _, h4⟩ := conts_get hcs h1
            exact .inl ⟨c2, h4⟩
          · intro k hk hno
            refine p12 k hk fun i c hi => ?_
            intro hs
            obtain ⟨b, h3, h4⟩ := hσc i k hs
            obtain ⟨c2, _, h5⟩ := conts_get hcs h3
            exact hno b c2 h5 h4
        · cases h
      · cases h
    · cases h
  · cases h

/-! ### calls, by summaries and by their own text -/
abbrev Gam := List (FuncId × Summary)
def findS : Gam → FuncId → Option Summary
  | [], _ => none
  | (g, S) :: r, f => match Nat.beq g f with | true => some S | false => findS r f
def GamOk (P : Program) (Γ : Gam) : Prop := ∀ p ∈ Γ, SumOk P p.1 p.2
theorem findS_ok {P : Program} : ∀ {Γ : Gam} {f : FuncId} {S : Summary}, GamOk P Γ → findS Γ f = some S → SumOk P f S
  | [], f, S, _, h => by simp [findS] at h
  | (g, T) :: r, f, S, hG, h => by
    simp only [findS] at h
    split at h
    · rename_i e
      cases h
      rw [← Nat.eq_of_beq_eq_true e]
      exact hG (g, T) (by simp)
    · exact findS_ok (fun p hp => hG p (by simp [hp])) h

/-- How all is run: the summaries, the fuel of a body, ways of merging by function. -/
structure Env where
  gam : Gam
  F : Nat := 100000
  ways : List (FuncId × List FuncId) := []
def isSum : Gam → FuncId → Bool
  | [], _ => false
  | (g, _) :: r, f => match Nat.beq g f with | true => true | false => isSum r f
def mergeOf : List (FuncId × List FuncId) → FuncId → Option (List FuncId)
  | [], _ => none
  | (g, w) :: r, f => match Nat.beq g f with | true => some w | false => mergeOf r f
def Env.way (E : Env) (f : FuncId) : Way := { merge := mergeOf E.ways f, quiet := isSum E.gam }
def callN (P : Program) (E : Env) : Nat → CallP
  | 0 => fun _ _ _ _ _ _ _ => none
  | d + 1 => fun _ f args H lo hi K => match findS E.gam f with
    | some S => sumRun S args H K
    | none => fnRun P E.F (callN P E d) (E.way f) [] f args H lo hi K

theorem callN_ok {P : Program} {E : Env} (hG : GamOk P E.gam) : ∀ (d : Nat) (β : Type), CallOk P (callN P E d β)
  | 0, _ => fun f args H lo hi K res h => by simp [callN] at h
  | d + 1, β => fun f args H lo hi K res h => by
    simp only [callN] at h
    split at h
    · rename_i S hS
      exact sumRun_ok (findS_ok hG hS) h
    · exact fnRun_ok (callN_ok hG d) f args H lo hi K res h

/-! ### a function's summary, out of its own text -/
def upTo (n : Nat) (b : Nat) : Option Nat := match Nat.blt b n with | true => some b | false => none
def nums : Nat → Nat → List Nat
  | _, 0 => []
  | k, n + 1 => k :: nums (k + 1) n
theorem nums_get : ∀ (n k i b : Nat), (nums k n)[i]? = some b → b = k + i ∧ i < n
  | 0, k, i, b, h => by simp [nums] at h
  | n + 1, k, i, b, h => by
    simp only [nums] at h
    cases i with
    | zero => simp at h; subst h; simp
    | succ i => simp at h; have := nums_get n (k + 1) i b h; omega
theorem nums_length : ∀ (n k : Nat), (nums k n).length = n
  | 0, _ => rfl
  | n + 1, k => by simp [nums, nums_length n]

def fnSum (P : Program) (E : Env) (hB : Hints) (d : Nat) (f : FuncId) (args : List AV) (cs : List Con) : Option (AV × List Con) :=
  match renL (upTo cs.length) args, renCs (upTo cs.length) cs with
  | some args0, some cs0 => fnRun P E.F (callN P E d) (E.way f) hB f args0 (numH 0 cs0) 4096 (4096 + 2 ^ 200) fun r H' =>
    match renO (upTo cs.length) r, conts H' (nums 0 cs.length) with
    | some r', some cs1 => match renCs (upTo cs.length) cs1 with
      | some cs2 => some (r', cs2)
      | none => none
    | _, _ => none
  | _, _ => none

theorem upTo_spec {n b b' : Nat} (h : upTo n b = some b') : b < n ∧ b' = b := by
  unfold upTo at h
  split at h
  · rename_i e; cases h; exact ⟨by simpa [Nat.blt_eq] using e, rfl⟩
  · cases h

theorem upTo_lt {n b : Nat} (h : b < n) : upTo n b = some b := by
  unfold upTo
  rw [show Nat.blt b n = true from by rw [Nat.blt_eq]; exact h]

theorem fnSum_factsH {P : Program} {E : Env} (hG : GamOk P E.gam) {hB : Hints} {d : Nat} {f : FuncId} (hfit : ∀ fn c, P.funcs[f]? = some fn → fn.body = some c → HFit P fn.ntmps hB c) {args : List AV} {cs cs' : List Con} {r : AV} (hn : cs.length ≤ 4096) (h : fnSum P E hB d f args cs = some (r, cs')) :
    cs'.length = cs.length ∧ CallFacts P f args (numH 0 cs) 0 0 r (numH 0 cs') := by
  unfold fnSum at h
  split at h
  · rename_i args0 cs0 hargs hcs0
    obtain ⟨r1, H', h1, hf⟩ := fnRun_facts (callN_ok hG d) hfit args0 (numH 0 cs0) 4096 (4096 + 2 ^ 200) _ _ h
    split at h1
    · rename_i r' cs1 hr' hcs1
      split at h1
      · rename_i cs2 hcs2
        cases h1
        have hl : cs'.length = cs.length := by rw [renCs_length hcs2, conts_length hcs1, nums_length]
        refine ⟨hl, fun σ vals w hinj hbd hvals hH _ => ?_⟩
        let σr : Nat → Option Nat := fun b => if b < cs.length then σ b else none
        have hσr : ∀ b r, σr b = some r → b < cs.length ∧ σ b = some r := by
          intro b r hb
          simp only [σr] at hb
          split at hb
          · rename_i h; exact ⟨h, hb⟩
          · cases hb
        have t1 : Ties (upTo cs.length) σ σr := by
          intro b b' hb r hr
          obtain ⟨h1, rfl⟩ := upTo_spec hb
          simp only [σr, if_pos h1]; exact hr
        have hHr : HFits σr (numH 0 cs0) w := by
          intro b c hb
          rw [hget_numH, if_pos (Nat.zero_le _), Nat.sub_zero] at hb
          obtain ⟨c0, h1, h2⟩ := renCs_get hcs0 hb
          have hlt := (List.getElem?_eq_some_iff.1 h1).1
          have hfit := hH b c0 (by rw [hget_numH, if_pos (Nat.zero_le _), Nat.sub_zero]; exact h1)
          cases c0 with
          | av a => simp [renC] at h2
          | row e cc =>
            obtain ⟨r0, vs, h5, h6⟩ := hfit
            exact renC_fits t1 h2 h5 (by simp only [σr, if_pos hlt]; exact h5) ⟨r0, vs, h5, h6⟩
          | obj o =>
            obtain ⟨r0, h5, h6⟩ := hfit
            exact renC_fits t1 h2 h5 (by simp only [σr, if_pos hlt]; exact h5) ⟨r0, h5, h6⟩
        refine Calls.mono (hf σr vals w (fun b b' r h1 h2 => hinj _ _ _ (hσr _ _ h1).2 (hσr _ _ h2).2) (fun b r h1 => hbd _ _ (hσr _ _ h1).2) (renL_rel t1 _ _ _ hargs hvals) hHr (fun b h1 h2 => by simp only [σr]; rw [if_neg (by omega)])) fun e w' he => ?_
        obtain ⟨σ', v, rfl, p1, p2, p3, p4, p5, p6, p7, p8, p9, p10, p11, p12⟩ := he
        have t2 : Ties (upTo cs.length) σ' σ := by
          intro b b' hb r hr
          obtain ⟨h1, rfl⟩ := upTo_spec hb
          cases hs : σ b' with
          | some r0 =>
            have := p1 b' r0 (by simp only [σr, if_pos h1]; exact hs)
            rw [hr] at this; cases this; rfl
          | none =>
            have := p2 b' (by simp only [σr, if_pos h1]; exact hs) (.inl (by omega))
            rw [hr] at this; cases this
        refine ⟨σ, v, rfl, Le.refl σ, fun _ h _ => h, renO_rel t2 _ _ _ hr' p3, ?_, hinj, fun b r hb => Nat.lt_of_lt_of_le (hbd b r hb) p11, ?_, p8, p9, p10, p11, ?_⟩
        · intro b c hb
          rw [hget_numH, if_pos (Nat.zero_le _), Nat.sub_zero] at hb
          obtain ⟨c0, h1, h2⟩ := renCs_get hcs2 hb
          have hlt : b < (nums 0 cs.length).length := by
            rw [← conts_length hcs1]; exact (List.getElem?_eq_some_iff.1 h1).1
          obtain ⟨c2, h3, h4⟩ := conts_get hcs1 (List.getElem?_eq_getElem hlt)
          rw [h1] at h3
          cases h3
          have hb2 : (nums 0 cs.length)[b] = b := by
            have := (nums_get _ _ _ _ (List.getElem?_eq_getElem hlt)).1
            omega
          rw [hb2] at h4
          have hlt2 : b < cs.length := by rw [nums_length] at hlt; exact hlt
          have hfit := p4 b c0 h4
          cases c0 with
          | av a => simp [renC] at h2
          | row e cc =>
            obtain ⟨r0, vs, h5, h6⟩ := hfit
            exact renC_fits t2 h2 h5 (t2 b b (upTo_lt hlt2) r0 h5) ⟨r0, vs, h5, h6⟩
          | obj o =>
            obtain ⟨r0, h5, h6⟩ := hfit
            exact renC_fits t2 h2 h5 (t2 b b (upTo_lt hlt2) r0 h5) ⟨r0, h5, h6⟩
        · intro b c hb
          rw [hget_numH, if_pos (Nat.zero_le _), Nat.sub_zero] at hb
          have hlt : b < cs.length := by rw [← hl]; exact (List.getElem?_eq_some_iff.1 hb).1
          exact .inl ⟨cs[b], by rw [hget_numH, if_pos (Nat.zero_le _), Nat.sub_zero]; exact List.getElem?_eq_getElem hlt⟩
        · intro k hk hno
          refine p12 k hk fun b c hb hs => ?_
          rw [hget_numH, if_pos (Nat.zero_le _), Nat.sub_zero] at hb
          obtain ⟨h1, h2⟩ := hσr b k hs
          exact hno b cs[b] (by rw [hget_numH, if_pos (Nat.zero_le _), Nat.sub_zero]; exact List.getElem?_eq_getElem h1) h2
      · cases h1
    · cases h1
  · cases h

theorem fnSum_facts {P : Program} {E : Env} (hG : GamOk P E.gam) {d : Nat} {f : FuncId} {args : List AV} {cs cs' : List Con} {r : AV} (hn : cs.length ≤ 4096) (h : fnSum P E [] d f args cs = some (r, cs')) :
    cs'.length = cs.length ∧ CallFacts P f args (numH 0 cs) 0 0 r (numH 0 cs') :=
  fnSum_factsH hG (fun _ c _ _ => HFit.nil c) hn h

theorem sumOk_of {P : Program} {E : Env} (hG : GamOk P E.gam) {f : FuncId} {S : Summary} (h : ∀ args cs r cs', (S args cs).sel = some (r, cs') → cs.length ≤ 4096 ∧ ∃ d, fnSum P E [] d f args cs = some (r, cs')) : SumOk P f S := by
  intro args cs r cs' hS
  obtain ⟨hn, d, h1⟩ := h args cs r cs' hS
  exact fnSum_facts hG hn h1

theorem sumOk_ofH {P : Program} {E : Env} (hG : GamOk P E.gam) {hB : Hints} {f : FuncId} {S : Summary} (hfit : ∀ fn c, P.funcs[f]? = some fn → fn.body = some c → HFit P fn.ntmps hB c)
    (h : ∀ args cs r cs', (S args cs).sel = some (r, cs') → cs.length ≤ 4096 ∧ ∃ d, fnSum P E hB d f args cs = some (r, cs')) : SumOk P f S := by
  intro args cs r cs' hS
  obtain ⟨hn, d, h1⟩ := h args cs r cs' hS
  exact fnSum_factsH hG hfit hn h1

end Go.Ab
