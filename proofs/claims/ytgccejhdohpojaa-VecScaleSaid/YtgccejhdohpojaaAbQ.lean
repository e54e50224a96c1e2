/- A part of the proof of 'VecScale': lemmas, no statement of their own; no condition. -/
import Derived.Test.YtgccejhdohpojaaAbP
namespace Go.Ab
/-! ### loops over numbers in temporaries and in rows: the whole heap is told -/
abbrev Rows' := List (Nat × TypeId × List IntKind)
def rdC : List IntKind → List AV → Option (List Int)
  | [], [] => some []
  | k :: ks, .val (.int k' n) :: r => match decide (k = k'), rdC ks r with | true, some xs => some (n :: xs) | _, _ => none
  | _, _ => none
def wrC : List IntKind → List Int → Option (List AV × List Int)
  | [], xs => some ([], xs)
  | k :: ks, n :: xs => match wrC ks xs with | some (vs, rest) => some (.val (.int k n) :: vs, rest) | none => none
  | _ :: _, [] => none
theorem rdC_wr : ∀ {ks : List IntKind} {l : List AV} {xs : List Int} (rest : List Int), rdC ks l = some xs → xs.length = ks.length ∧ wrC ks (xs ++ rest) = some (l, rest)
  | [], [], xs, rest, h => by simp only [rdC, Option.some.injEq] at h; subst h; exact ⟨rfl, rfl⟩
  | [], _ :: _, xs, rest, h => by simp [rdC] at h
  | k :: ks, [], xs, rest, h => by simp [rdC] at h
  | k :: ks, v :: r, xs, rest, h => by
    unfold rdC at h
    split at h
    · rename_i he _; cases he
    · rename_i k1 ks1 k' n r' he hv
      cases he
      cases hv
      split at h
      · rename_i ys hk hy
        cases h
        have hk := of_decide_eq_true hk
        subst hk
        obtain ⟨h1, h2⟩ := rdC_wr rest hy
        exact ⟨by simp [h1], by simp [wrC, h2]⟩
      · cases h
    · cases h
def rowLen : Rows' → Nat
  | [] => 0
  | (_, _, ks) :: r => ks.length + rowLen r
def rdH : Rows' → Hp → Option (List Int)
  | [], [] => some []
  | (b, e, ks) :: r, (b', .row e' cs) :: h => match Nat.beq b b', Nat.beq e e', rdC ks cs, rdH r h with
    | true, true, some xs, some ys => some (xs ++ ys)
    | _, _, _, _ => none
  | _, _ => none
def wrH : Rows' → List Int → Hp
  | (b, e, ks) :: r, xs => match wrC ks xs with | some (cs, ys) => (b, .row e cs) :: wrH r ys | none => []
  | [], _ => []
theorem rdH_wr : ∀ {rows : Rows'} {h : Hp} {xs : List Int}, rdH rows h = some xs → xs.length = rowLen rows ∧ wrH rows xs = h
  | [], [], xs, h => by simp only [rdH, Option.some.injEq] at h; subst h; exact ⟨rfl, rfl⟩
  | [], _ :: _, xs, h => by simp [rdH] at h
  | (b, e, ks) :: r, [], xs, h => by simp [rdH] at h
  | (b, e, ks) :: r, (b', c) :: hp, xs, h => by
    cases c with
    | av a => simp [rdH] at h
    | obj o => simp [rdH] at h
    | row e' cs =>
      simp only [rdH] at h
      split at h
      · rename_i zs ys hb he hz hy
        cases h
        have hb := Nat.eq_of_beq_eq_true hb
        have he := Nat.eq_of_beq_eq_true he
        subst hb; subst he
        obtain ⟨h1, h2⟩ := rdH_wr hy
        obtain ⟨h3, h4⟩ := rdC_wr ys hz
        exact ⟨by simp [rowLen, h1, h3], by simp [wrH, h4, h2]⟩
      · cases h
theorem wrH_has : ∀ {rows : Rows'} {xs : List Int} {b : Nat} {c : Con}, hget (wrH rows xs) b = some c → ∃ q ∈ rows, q.1 = b
  | [], xs, b, c, h => by simp [wrH, hget] at h
  | (b', e, ks) :: r, xs, b, c, h => by
    simp only [wrH] at h
    split at h
    · simp only [hget] at h
      split at h
      · rename_i hb; exact ⟨(b', e, ks), by simp, Nat.eq_of_beq_eq_true hb⟩
      · obtain ⟨q, h1, h2⟩ := wrH_has h; exact ⟨q, by simp [h1], h2⟩
    · simp [hget] at h
def fxOk (l : List AV) : List (Nat × Nat × Nat) → Bool
  | [] => true
  | (t, b, o) :: r => match l[t]? with
    | some (.ptr b' o') => Nat.beq b b' && (Nat.beq o o' && fxOk l r)
    | _ => false
def fxs (fx : List (Nat × Nat × Nat)) : List (Nat × AV) := fx.map fun p => (p.1, .ptr p.2.1 p.2.2)
theorem fxOk_mem {l : List AV} : ∀ {fx : List (Nat × Nat × Nat)}, fxOk l fx = true → ∀ p ∈ fxs fx, l[p.1]? = some p.2
  | [], _, p, hp => by simp [fxs] at hp
  | (t, b, o) :: r, h, p, hp => by
    simp only [fxOk] at h
    split at h
    · rename_i b' o' ht
      simp only [Bool.and_eq_true] at h
      have hb := Nat.eq_of_beq_eq_true h.1
      have ho := Nat.eq_of_beq_eq_true h.2.1
      subst hb; subst ho
      simp only [fxs, List.map_cons, List.mem_cons] at hp
      rcases hp with rfl | hp
      · exact ht
      · exact fxOk_mem h.2.2 p hp
    · cases h
def lqTm (_ : Nat) (sl : Slots) (fx : List (Nat × Nat × Nat)) (G : List Nat) (xs : List Int) : List (Nat × AV) := wrI sl xs ++ (fxs fx ++ anys G)
def lqSt (N : Nat) (sl : Slots) (fx : List (Nat × Nat × Nat)) (G : List Nat) (rows : Rows') (xs : List Int) (x : Nat → AV) (lo hi step : Nat) : St := ⟨tmA N (lqTm N sl fx G xs) x, wrH rows (xs.drop (shLen sl)), lo, hi, step, []⟩
def lqHint (N : Nat) (sl : Slots) (fx : List (Nat × Nat × Nat)) (G : List Nat) (rows : Rows') (pre : List Int → Bool) (post : List Int → List Int) (s : St) : HTr :=
  match rdI s.tmps sl, rdH rows s.heap, fxOk s.tmps fx, Nat.beq s.tmps.length N with
  | some xs, some ys, true, true => .test (pre (xs ++ ys)) (.ret { s with tmps := ovL (lqTm N sl fx G (post (xs ++ ys))) 0 s.tmps, heap := wrH rows ((post (xs ++ ys)).drop (shLen sl)), log := sl.map (fun p => .tmp p.1) ++ (fx.map (fun p => .tmp p.1) ++ (G.map .tmp ++ (rows.map (fun p => .blk p.1) ++ s.log))) }) .no
  | _, _, _, _ => .no

theorem wrI_more : ∀ {sl : Slots} {l : List AV} {xs : List Int} (rest : List Int), rdI l sl = some xs → ∀ p ∈ wrI sl (xs ++ rest), l[p.1]? = some p.2
  | [], l, xs, rest, h, p, hp => by simp [wrI] at hp
  | (t, k) :: r, l, xs, rest, h, p, hp => by
    simp only [rdI] at h
    split at h
    · rename_i a ha
      split at h
      · rename_i zs ys hz hy
        cases h
        obtain ⟨h3, h4⟩ := Sh.rd_wr (ys ++ rest) hz
        rw [List.append_assoc] at hp
        simp only [wrI, h4, List.mem_cons] at hp
        rcases hp with rfl | hp
        · exact ha
        · exact wrI_more rest hy p hp
      · cases h
    · cases h

theorem lq_ok {P : Program} {call : CallP} (hcall : ∀ β, CallOk P (call β)) {N F id : Nat} {wy : Way} {body : Code} {sl : Slots} {fx : List (Nat × Nat × Nat)} {G : List Nat} {rows : Rows'} {pre : List Int → Bool} {post : List Int → List Int} (μ : List Int → Nat)
    (hstep : ∀ xs, xs.length = shLen sl + rowLen rows → pre xs = true → ∀ x lo hi step,
      (∃ ys, ys.length = shLen sl + rowLen rows ∧ pre ys = true ∧ μ ys < μ xs ∧ post ys = post xs ∧ run P call N wy [] F (Ex × St) body (lqSt N sl fx G rows xs x lo hi step) (fun e s' => some (e, maskSt G s')) = some (.normal, lqSt N sl fx G rows ys x lo hi step)) ∨
      run P call N wy [] F (Ex × St) body (lqSt N sl fx G rows xs x lo hi step) (fun e s' => some (e, maskSt G s')) = some (.exit id, lqSt N sl fx G rows (post xs) x lo hi step)) :
    ∀ s s', (lqHint N sl fx G rows pre post s).sel = some s' → RunsTo P N (.block id (.loop body)) s .normal s' ∧ LogOk s s' := by
  intro s s' hs
  unfold lqHint at hs
  split at hs
  · rename_i xs ys hxs hys hfx hN
    have hN := Nat.eq_of_beq_eq_true hN
    simp only [HTr.sel] at hs
    cases hp : pre (xs ++ ys) with
    | false => rw [hp] at hs; cases hs
    | true =>
      rw [hp] at hs
      simp only [cond_true, Option.some.injEq] at hs
      subst hs
      obtain ⟨hlen, _⟩ := rdI_mem hxs
      have hmem := wrI_more ys hxs
      obtain ⟨hlen2, hheap⟩ := rdH_wr hys
      have hfix := fxOk_mem hfx
      have hdrop : (xs ++ ys).drop (shLen sl) = ys := by rw [← hlen]; simp
      let x : Nat → AV := fun i => s.tmps.getD i .any
      refine ⟨?_, ?_⟩
      · let ι := { xs : List Int // xs.length = shLen sl + rowLen rows ∧ pre xs = true }
        have hl := RunsTo.loop (P := P) (N := N) (c := body) (ι := ι) (fun i => lqSt N sl fx G rows i.1 x s.lo s.hi s.step) (fun i => μ i.1) (fun i => lqSt N sl fx G rows (post i.1) x s.lo s.hi s.step) (.exit id) (by
          intro ⟨xs, h1, h2⟩
          rcases hstep xs h1 h2 x s.lo s.hi s.step with ⟨ys, k1, k2, k3, k4, k5⟩ | k
          · exact .inl ⟨⟨ys, k1, k2⟩, k3, by simp only [k4], runs_of hcall G k5⟩
          · exact .inr ⟨runs_of hcall G k, by simp⟩) ⟨xs ++ ys, by simp [hlen, hlen2], hp⟩
        have hb := RunsTo.block hl (.inr rfl)
        refine (hb.weak_start (s0 := s) ?_ (Nat.le_refl _) (Nat.le_refl _)).weak_end ?_ (Nat.le_refl _) (Nat.le_refl _)
        · intro l c' h
          cases l with
          | blk b =>
            simp only [St.u, lqSt, stU, hdrop, hheap] at h
            exact ⟨c', h, WkC.refl c'⟩
          | tmp t =>
            simp only [St.u, lqSt, stU, tmA_get] at h
            split at h
            · rename_i ht
              simp only [Option.map_some, Option.some.injEq] at h
              have hst : s.tmps[t]? = some (x t) := by
                have : t < s.tmps.length := by omega
                simp [x, this]
              refine ⟨.av (x t), by simp [St.u, stU, hst], ?_⟩
              subst h
              rcases ovA_cases (lqTm N sl fx G (xs ++ ys)) x t with ⟨p, h1, h2, h3⟩ | ⟨h1, _⟩
              · rw [h3]
                unfold lqTm at h1
                rcases List.mem_append.1 h1 with h1 | h1
                · have := hmem p h1
                  rw [h2, hst] at this
                  rw [← Option.some.inj this]
                  exact WkC.refl _
                · rcases List.mem_append.1 h1 with h1 | h1
                  · have := hfix p h1
                    rw [h2, hst] at this
                    rw [← Option.some.inj this]
                    exact WkC.refl _
                  · simp only [anys, List.mem_map] at h1
                    obtain ⟨g, _, rfl⟩ := h1
                    exact fun _ _ _ => by simp only [Rel]
              · rw [h1]; exact WkC.refl _
            · simp at h
        · intro l c' h
          refine ⟨c', ?_, WkC.refl c'⟩
          have e := ovL_tmA hN (lqTm N sl fx G (post (xs ++ ys)))
          simpa only [St.u, lqSt, e] using h
      · refine ⟨fun l hl => by simp [hl], fun l hl => ?_⟩
        cases l with
        | blk b =>
          have hno : ∀ q ∈ rows, q.1 ≠ b := by
            intro q hq e
            apply hl
            simp only [List.mem_append, List.mem_map]
            exact .inr (.inr (.inr (.inl ⟨q, hq, by rw [e]⟩)))
          have h1 : ∀ zs, hget (wrH rows zs) b = none := by
            intro zs
            cases hz : hget (wrH rows zs) b with
            | none => rfl
            | some c => obtain ⟨q, h2, h3⟩ := wrH_has hz; exact absurd h3 (hno q h2)
          show hget (wrH rows _) b = hget s.heap b
          rw [h1, ← hheap, h1]
        | tmp t =>
          simp only [St.u, stU, ovL_get, Nat.zero_add]
          cases ht : s.tmps[t]? with
          | none => rfl
          | some a =>
            simp only [Option.map_some, Option.some.injEq, Con.av.injEq]
            rcases ovA_cases (lqTm N sl fx G (post (xs ++ ys))) (fun _ => a) t with ⟨p, h1, h2, h3⟩ | ⟨h1, _⟩
            · exfalso
              apply hl
              simp only [List.mem_append, List.mem_map]
              unfold lqTm at h1
              rcases List.mem_append.1 h1 with h1 | h1
              · obtain ⟨q, h4, h5⟩ := wrI_slot h1
                exact .inl ⟨q, h4, by rw [h5, h2]⟩
              · rcases List.mem_append.1 h1 with h1 | h1
                · simp only [fxs, List.mem_map] at h1
                  obtain ⟨q, h4, rfl⟩ := h1
                  exact .inr (.inl ⟨q, h4, by rw [← h2]⟩)
                · simp only [anys, List.mem_map] at h1
                  obtain ⟨g, h4, rfl⟩ := h1
                  exact .inr (.inr (.inl ⟨g, h4, by rw [← h2]⟩))
            · exact h1
  · simp [HTr.sel] at hs
end Go.Ab
