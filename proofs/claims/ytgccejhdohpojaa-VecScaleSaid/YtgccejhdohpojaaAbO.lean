/- A part of the proof of 'VecScale': lemmas, no statement of their own; no condition. -/
import Derived.Test.YtgccejhdohpojaaAbN
namespace Go.Ab
variable {P : Program} {N : Nat}

/-! ### loops by hand -/
theorem RunsTo.weak_start {c : Code} {s0 s s' : St} {e : Ex} (h : RunsTo P N c s e s') (hw : Wk s.u s0.u) (hlo : s0.lo ≤ s.lo) (hhi : s.hi ≤ s0.hi) : RunsTo P N c s0 e s' :=
  fun w0 own σ0 lo0 hi0 a w hst Q hQ => h w0 own σ0 lo0 hi0 a w (hst.weak hw hlo hhi) Q hQ
theorem RunsTo.weak_end {c : Code} {s s1 s' : St} {e : Ex} (h : RunsTo P N c s e s1) (hw : Wk s'.u s1.u) (hlo : s1.lo ≤ s'.lo) (hhi : s'.hi ≤ s1.hi) : RunsTo P N c s e s' :=
  fun w0 own σ0 lo0 hi0 a w hst Q hQ => h w0 own σ0 lo0 hi0 a w hst Q fun a' w' hst' => hQ a' w' (hst'.weak hw hlo hhi)

theorem RunsTo.loop {ι : Type} {c : Code} (I : ι → St) (μ : ι → Nat) (res : ι → St) (e : Ex)
    (h : ∀ i, (∃ j, μ j < μ i ∧ res j = res i ∧ RunsTo P N c (I i) .normal (I j)) ∨ (RunsTo P N c (I i) e (res i) ∧ e ≠ .normal)) (i : ι) : RunsTo P N (.loop c) (I i) e (res i) := by
  have key : ∀ n i, μ i ≤ n → ∃ m, LoopsTo P N m c (I i) e (res i) := by
    intro n
    induction n with
    | zero =>
      intro i hi
      rcases h i with ⟨j, hj, _⟩ | ⟨h1, h2⟩
      · omega
      · refine ⟨1, fun w0 own σ0 lo0 hi0 a w hst Q hQ => ?_⟩
        rw [rounds_succ]
        refine h1 w0 own σ0 lo0 hi0 a w hst _ fun a' w' hst' => ?_
        cases e with
        | normal => exact absurd rfl h2
        | exit id => exact hQ a' w' hst'
        | ret => exact hQ a' w' hst'
    | succ n ih =>
      intro i hi
      rcases h i with ⟨j, hj, hr, h1⟩ | ⟨h1, h2⟩
      · obtain ⟨m, hm⟩ := ih j (by omega)
        refine ⟨m + 1, fun w0 own σ0 lo0 hi0 a w hst Q hQ => ?_⟩
        rw [rounds_succ]
        refine h1 w0 own σ0 lo0 hi0 a w hst _ fun a' w' hst' => ?_
        exact hm w0 own σ0 lo0 hi0 a' w' hst' Q (hr ▸ hQ)
      · refine ⟨1, fun w0 own σ0 lo0 hi0 a w hst Q hQ => ?_⟩
        rw [rounds_succ]
        refine h1 w0 own σ0 lo0 hi0 a w hst _ fun a' w' hst' => ?_
        cases e with
        | normal => exact absurd rfl h2
        | exit id => exact hQ a' w' hst'
        | ret => exact hQ a' w' hst'
  obtain ⟨m, hm⟩ := key (μ i) i (Nat.le_refl _)
  exact fun w0 own σ0 lo0 hi0 a w hst Q hQ => wp_loop_rounds m (hm w0 own σ0 lo0 hi0 a w hst Q hQ)

theorem RunsTo.block {id : Nat} {c : Code} {s s' : St} {e : Ex} (h : RunsTo P N c s e s') (he : e = .normal ∨ e = .exit id) : RunsTo P N (.block id c) s .normal s' := by
  intro w0 own σ0 lo0 hi0 a w hst Q hQ
  refine wp_block (h w0 own σ0 lo0 hi0 a w hst _ fun a' w' hst' => ?_)
  rcases he with rfl | rfl
  · exact hQ a' w' hst'
  · simp only [Ex.to, Exit.inBlock, if_true]; exact hQ a' w' hst'

/-- The temporaries named are no longer told. -/
def maskT : List Nat → Nat → List AV → List AV
  | _, _, [] => []
  | G, t, a :: r => (match hasN G t with | true => .any | false => a) :: maskT G (t + 1) r
theorem hasN_mem : ∀ {l : List Nat} {b : Nat}, hasN l b = true → b ∈ l
  | [], b, h => by simp [hasN] at h
  | x :: r, b, h => by
    simp only [hasN] at h
    split at h
    · rename_i e; simp [Nat.eq_of_beq_eq_true e]
    · simp [hasN_mem h]
theorem maskT_get (G : List Nat) : ∀ (l : List AV) (t i : Nat), (maskT G t l)[i]? = (l[i]?).map fun a => match hasN G (t + i) with | true => .any | false => a
  | [], t, i => by simp [maskT]
  | a :: r, t, 0 => by simp [maskT]
  | a :: r, t, i + 1 => by
    simp only [maskT, List.getElem?_cons_succ]
    rw [maskT_get G r (t + 1) i, show t + 1 + i = t + (i + 1) by omega]
def maskSt (G : List Nat) (s : St) : St := { s with tmps := maskT G 0 s.tmps, log := [] }
theorem maskSt_wk (G : List Nat) (s : St) : Wk (maskSt G s).u s.u := by
  intro l c' h
  cases l with
  | blk b => exact ⟨c', h, WkC.refl c'⟩
  | tmp t =>
    simp only [St.u, maskSt, stU, maskT_get, Nat.zero_add] at h
    cases hs : s.tmps[t]? with
    | none => simp [hs] at h
    | some a =>
      simp only [hs, Option.map_some, Option.some.injEq] at h
      refine ⟨.av a, by simp [St.u, stU, hs], ?_⟩
      subst h
      split
      · exact fun _ _ _ => by simp only [Rel]
      · exact fun _ _ h => h

/-- One round, by reckoning. -/
theorem runs_of {call : CallP} (hcall : ∀ β, CallOk P (call β)) {wy : Way} {F : Nat} {c : Code} {s s1 : St} {e : Ex} (G : List Nat)
    (h : run P call N wy [] F (Ex × St) c s (fun e s' => some (e, maskSt G s')) = some (e, s1)) : RunsTo P N c s e s1 := by
  obtain ⟨e', s', h1, h2, _⟩ := (run_sound hcall F).1 (Ex × St) (e, s1) c s _ (HFit.nil c) h
  simp only [Option.some.injEq, Prod.mk.injEq] at h1
  obtain ⟨rfl, rfl⟩ := h1
  exact h2.weak_end (maskSt_wk G s') (Nat.le_refl _) (Nat.le_refl _)

/-! ### temporaries by a few slots -/
def ovA : List (Nat × AV) → (Nat → AV) → Nat → AV
  | [], x, i => x i
  | (t, a) :: r, x, i => match Nat.beq t i with | true => a | false => ovA r x i
def tmA (n : Nat) (o : List (Nat × AV)) (x : Nat → AV) : List AV := (nums 0 n).map (ovA o x)
theorem ovA_of {l : List AV} : ∀ {o : List (Nat × AV)} {i : Nat}, (∀ p ∈ o, l[p.1]? = some p.2) → i < l.length → l[i]? = some (ovA o (fun i => l.getD i .any) i)
  | [], i, _, hi => by simp [ovA, hi]
  | (t, a) :: r, i, h, hi => by
    simp only [ovA]
    split
    · rename_i e
      rw [← Nat.eq_of_beq_eq_true e]
      exact h (t, a) (by simp)
    · exact ovA_of (fun p hp => h p (by simp [hp])) hi
theorem tmA_get (n : Nat) (o : List (Nat × AV)) (x : Nat → AV) (i : Nat) : (tmA n o x)[i]? = if i < n then some (ovA o x i) else none := by
  unfold tmA
  rw [List.getElem?_map]
  by_cases h : i < n
  · have hlt : i < (nums 0 n).length := by rw [nums_length]; exact h
    have := (nums_get n 0 i _ (List.getElem?_eq_getElem hlt)).1
    rw [List.getElem?_eq_getElem hlt, this, if_pos h]
    simp
  · rw [if_neg h, List.getElem?_eq_none (by rw [nums_length]; omega)]
    rfl
theorem tmA_of {l : List AV} {o : List (Nat × AV)} (h : ∀ p ∈ o, l[p.1]? = some p.2) : l = tmA l.length o (fun i => l.getD i .any) := by
  apply List.ext_getElem?
  intro i
  rw [tmA_get]
  by_cases hi : i < l.length
  · rw [if_pos hi]; exact ovA_of h hi
  · rw [if_neg hi]; exact List.getElem?_eq_none (by omega)

end Go.Ab
