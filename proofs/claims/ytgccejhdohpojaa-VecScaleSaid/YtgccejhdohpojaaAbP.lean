/- A part of the proof of 'VecScale': lemmas, no statement of their own; no condition. -/
import Derived.Test.YtgccejhdohpojaaAbO
namespace Go.Ab
/-! ### loops over numbers in temporaries: a hint out of one round -/
/-- What stands in a slot: a number, or a struct of numbers. -/
inductive Sh where
  | int (k : IntKind)
  | agg (ks : List IntKind)
def aggRd : List IntKind → List Value → Option (List Int)
  | [], [] => some []
  | k :: ks, .int k' n :: r => match decide (k = k'), aggRd ks r with | true, some xs => some (n :: xs) | _, _ => none
  | _, _ => none
def aggWr : List IntKind → List Int → Option (List Value × List Int)
  | [], xs => some ([], xs)
  | k :: ks, n :: xs => match aggWr ks xs with | some (vs, rest) => some (.int k n :: vs, rest) | none => none
  | _ :: _, [] => none
def Sh.rd : Sh → AV → Option (List Int)
  | .int k, .val (.int k' n) => match decide (k = k') with | true => some [n] | false => none
  | .agg ks, .val (.agg ⟨l⟩) => aggRd ks l
  | _, _ => none
def Sh.wr : Sh → List Int → Option (AV × List Int)
  | .int k, n :: xs => some (.val (.int k n), xs)
  | .int _, [] => none
  | .agg ks, xs => match aggWr ks xs with | some (vs, rest) => some (.val (.agg ⟨vs⟩), rest) | none => none
def Sh.len : Sh → Nat
  | .int _ => 1
  | .agg ks => ks.length
abbrev Slots := List (Nat × Sh)
def shLen : Slots → Nat
  | [] => 0
  | (_, s) :: r => s.len + shLen r
theorem aggRd_wr : ∀ {ks : List IntKind} {l : List Value} {xs : List Int} (rest : List Int), aggRd ks l = some xs → xs.length = ks.length ∧ aggWr ks (xs ++ rest) = some (l, rest)
  | [], [], xs, rest, h => by simp only [aggRd, Option.some.injEq] at h; subst h; exact ⟨rfl, rfl⟩
  | [], _ :: _, xs, rest, h => by simp [aggRd] at h
  | k :: ks, [], xs, rest, h => by simp [aggRd] at h
  | k :: ks, v :: r, xs, rest, h => by
    unfold aggRd at h
    split at h
    · rename_i he _; cases he
    · rename_i k1 ks1 k' n r' he hv
      cases he
      cases hv
      split at h
      · rename_i ys hk hy
        cases h
        have hk := of_decide_eq_true hk
        subst hk
        obtain ⟨h1, h2⟩ := aggRd_wr rest hy
        exact ⟨by simp [h1], by simp [aggWr, h2]⟩
      · cases h
    · cases h
theorem Sh.rd_wr {s : Sh} {a : AV} {xs : List Int} (rest : List Int) (h : s.rd a = some xs) : xs.length = s.len ∧ s.wr (xs ++ rest) = some (a, rest) := by
  unfold Sh.rd at h
  split at h
  · split at h
    · rename_i hk
      cases h
      have hk := of_decide_eq_true hk
      subst hk
      exact ⟨rfl, rfl⟩
    · cases h
  · obtain ⟨h1, h2⟩ := aggRd_wr rest h
    exact ⟨h1, by simp [Sh.wr, h2]⟩
  · cases h
def rdI (l : List AV) : Slots → Option (List Int)
  | [] => some []
  | (t, k) :: r => match l[t]? with
    | some a => match k.rd a, rdI l r with | some xs, some ys => some (xs ++ ys) | _, _ => none
    | none => none
def wrI : Slots → List Int → List (Nat × AV)
  | (t, k) :: r, xs => match k.wr xs with | some (a, ys) => (t, a) :: wrI r ys | none => []
  | [], _ => []
def anys (G : List Nat) : List (Nat × AV) := G.map fun i => (i, .any)
def ovL (o : List (Nat × AV)) : Nat → List AV → List AV
  | _, [] => []
  | i, a :: r => ovA o (fun _ => a) i :: ovL o (i + 1) r
def lpSt (N : Nat) (sl : Slots) (G : List Nat) (xs : List Int) (x : Nat → AV) (heap : Hp) (lo hi step : Nat) : St := ⟨tmA N (wrI sl xs ++ anys G) x, heap, lo, hi, step, []⟩
def lpHint (N : Nat) (sl : Slots) (G : List Nat) (pre : List Int → Bool) (post : List Int → List Int) (s : St) : HTr :=
  match rdI s.tmps sl, Nat.beq s.tmps.length N with
  | some xs, true => .test (pre xs) (.ret { s with tmps := ovL (wrI sl (post xs) ++ anys G) 0 s.tmps, log := sl.map (fun p => .tmp p.1) ++ (G.map .tmp ++ s.log) }) .no
  | _, _ => .no

theorem ovA_cases : ∀ (o : List (Nat × AV)) (x : Nat → AV) (i : Nat), (∃ p ∈ o, p.1 = i ∧ ovA o x i = p.2) ∨ (ovA o x i = x i ∧ ∀ p ∈ o, p.1 ≠ i)
  | [], x, i => .inr ⟨rfl, fun p h => by cases h⟩
  | (t, a) :: r, x, i => by
    simp only [ovA]
    split
    · rename_i e
      exact .inl ⟨(t, a), by simp, Nat.eq_of_beq_eq_true e, rfl⟩
    · rename_i e
      rcases ovA_cases r x i with ⟨p, h1, h2, h3⟩ | ⟨h1, h2⟩
      · exact .inl ⟨p, by simp [h1], h2, h3⟩
      · refine .inr ⟨h1, fun p hp => ?_⟩
        rcases List.mem_cons.1 hp with rfl | hp
        · intro e2; simp only at e2; subst e2; simp at e
        · exact h2 p hp
theorem ovA_ext {x y : Nat → AV} {i : Nat} (h : x i = y i) : ∀ o : List (Nat × AV), ovA o x i = ovA o y i
  | [] => h
  | (t, a) :: r => by simp only [ovA]; split; rfl; exact ovA_ext h r
theorem ovL_get (o : List (Nat × AV)) : ∀ (l : List AV) (k i : Nat), (ovL o k l)[i]? = (l[i]?).map fun a => ovA o (fun _ => a) (k + i)
  | [], k, i => by simp [ovL]
  | a :: r, k, 0 => by simp [ovL]
  | a :: r, k, i + 1 => by
    simp only [ovL, List.getElem?_cons_succ]
    rw [ovL_get o r (k + 1) i, show k + 1 + i = k + (i + 1) by omega]
theorem ovL_tmA {l : List AV} {N : Nat} (hl : l.length = N) (o : List (Nat × AV)) : ovL o 0 l = tmA N o (fun i => l.getD i .any) := by
  apply List.ext_getElem?
  intro i
  rw [ovL_get, tmA_get, Nat.zero_add]
  by_cases hi : i < N
  · rw [if_pos hi, List.getElem?_eq_getElem (by omega)]
    simp only [Option.map_some, Option.some.injEq]
    exact ovA_ext (by simp [List.getD, List.getElem?_eq_getElem (show i < l.length by omega)]) o
  · rw [if_neg hi, List.getElem?_eq_none (by omega)]
    rfl
theorem rdI_mem {l : List AV} : ∀ {sl : Slots} {xs : List Int}, rdI l sl = some xs → xs.length = shLen sl ∧ ∀ p ∈ wrI sl xs, l[p.1]? = some p.2
  | [], xs, h => by simp only [rdI, Option.some.injEq] at h; subst h; exact ⟨rfl, fun p hp => by simp [wrI] at hp⟩
  | (t, k) :: r, xs, h => by
    simp only [rdI] at h
    split at h
    · rename_i a ha
      split at h
      · rename_i zs ys hz hy
        cases h
        obtain ⟨h1, h2⟩ := rdI_mem hy
        obtain ⟨h3, h4⟩ := Sh.rd_wr ys hz
        refine ⟨by simp [shLen, h1, h3], fun p hp => ?_⟩
        simp only [wrI, h4, List.mem_cons] at hp
        rcases hp with rfl | hp
        · exact ha
        · exact h2 p hp
      · cases h
    · cases h
theorem wrI_slot : ∀ {sl : Slots} {xs : List Int} {p : Nat × AV}, p ∈ wrI sl xs → ∃ q ∈ sl, q.1 = p.1
  | [], xs, p, h => by simp [wrI] at h
  | (t, k) :: r, xs, p, h => by
    simp only [wrI] at h
    split at h
    · rename_i a ys _
      simp only [List.mem_cons] at h
      rcases h with rfl | h
      · exact ⟨(t, k), by simp, rfl⟩
      · obtain ⟨q, h1, h2⟩ := wrI_slot h; exact ⟨q, by simp [h1], h2⟩
    · simp at h

theorem lp_ok {P : Program} {call : CallP} (hcall : ∀ β, CallOk P (call β)) {N F id : Nat} {wy : Way} {body : Code} {sl : Slots} {G : List Nat} {pre : List Int → Bool} {post : List Int → List Int} (μ : List Int → Nat)
    (hstep : ∀ xs, xs.length = shLen sl → pre xs = true → ∀ x heap lo hi step,
      (∃ ys, ys.length = shLen sl ∧ pre ys = true ∧ μ ys < μ xs ∧ post ys = post xs ∧ run P call N wy [] F (Ex × St) body (lpSt N sl G xs x heap lo hi step) (fun e s' => some (e, maskSt G s')) = some (.normal, lpSt N sl G ys x heap lo hi step)) ∨
      run P call N wy [] F (Ex × St) body (lpSt N sl G xs x heap lo hi step) (fun e s' => some (e, maskSt G s')) = some (.exit id, lpSt N sl G (post xs) x heap lo hi step)) :
    ∀ s s', (lpHint N sl G pre post s).sel = some s' → RunsTo P N (.block id (.loop body)) s .normal s' ∧ LogOk s s' := by
  intro s s' hs
  unfold lpHint at hs
  split at hs
  · rename_i xs hxs hN
    have hN := Nat.eq_of_beq_eq_true hN
    simp only [HTr.sel] at hs
    cases hp : pre xs with
    | false => rw [hp] at hs; cases hs
    | true =>
      rw [hp] at hs
      simp only [cond_true, Option.some.injEq] at hs
      subst hs
      obtain ⟨hlen, hmem⟩ := rdI_mem hxs
      let x : Nat → AV := fun i => s.tmps.getD i .any
      refine ⟨?_, ?_⟩
      · let ι := { xs : List Int // xs.length = shLen sl ∧ pre xs = true }
        have hl := RunsTo.loop (P := P) (N := N) (c := body) (ι := ι) (fun i => lpSt N sl G i.1 x s.heap s.lo s.hi s.step) (fun i => μ i.1) (fun i => lpSt N sl G (post i.1) x s.heap s.lo s.hi s.step) (.exit id) (by
          intro ⟨xs, h1, h2⟩
          rcases hstep xs h1 h2 x s.heap s.lo s.hi s.step with ⟨ys, k1, k2, k3, k4, k5⟩ | k
          · exact .inl ⟨⟨ys, k1, k2⟩, k3, by simp only [k4], runs_of hcall G k5⟩
          · exact .inr ⟨runs_of hcall G k, by simp⟩) ⟨xs, hlen, hp⟩
        have hb := RunsTo.block hl (.inr rfl)
        refine (hb.weak_start (s0 := s) ?_ (Nat.le_refl _) (Nat.le_refl _)).weak_end ?_ (Nat.le_refl _) (Nat.le_refl _)
        · intro l c' h
          cases l with
          | blk b => exact ⟨c', h, WkC.refl c'⟩
          | tmp t =>
            simp only [St.u, lpSt, stU, tmA_get] at h
            split at h
            · rename_i ht
              simp only [Option.map_some, Option.some.injEq] at h
              have hst : s.tmps[t]? = some (x t) := by
                have : t < s.tmps.length := by omega
                simp [x, this]
              refine ⟨.av (x t), by simp [St.u, stU, hst], ?_⟩
              subst h
              rcases ovA_cases (wrI sl xs ++ anys G) x t with ⟨p, h1, h2, h3⟩ | ⟨h1, _⟩
              · rw [h3]
                rcases List.mem_append.1 h1 with h1 | h1
                · have := hmem p h1
                  rw [h2, hst] at this
                  rw [← Option.some.inj this]
                  exact WkC.refl _
                · simp only [anys, List.mem_map] at h1
                  obtain ⟨g, _, rfl⟩ := h1
                  exact fun _ _ _ => by simp only [Rel]
              · rw [h1]; exact WkC.refl _
            · simp at h
        · intro l c' h
          refine ⟨c', ?_, WkC.refl c'⟩
          have e := ovL_tmA hN (wrI sl (post xs) ++ anys G)
          simpa only [St.u, lpSt, e] using h
      · refine ⟨fun l hl => by simp [hl], fun l hl => ?_⟩
        cases l with
        | blk b => rfl
        | tmp t =>
          simp only [St.u, stU, ovL_get, Nat.zero_add]
          cases ht : s.tmps[t]? with
          | none => rfl
          | some a =>
            simp only [Option.map_some, Option.some.injEq, Con.av.injEq]
            rcases ovA_cases (wrI sl (post xs) ++ anys G) (fun _ => a) t with ⟨p, h1, h2, h3⟩ | ⟨h1, _⟩
            · exfalso
              apply hl
              simp only [List.mem_append, List.mem_map]
              rcases List.mem_append.1 h1 with h1 | h1
              · obtain ⟨q, h4, h5⟩ := wrI_slot h1
                exact .inl ⟨q, h4, by rw [h5, h2]⟩
              · simp only [anys, List.mem_map] at h1
                obtain ⟨g, h4, rfl⟩ := h1
                exact .inr (.inl ⟨g, h4, by rw [← h2]⟩)
            · exact h1
  · simp [HTr.sel] at hs
end Go.Ab
