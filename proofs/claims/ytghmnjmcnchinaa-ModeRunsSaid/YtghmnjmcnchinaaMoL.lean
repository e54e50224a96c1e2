/- A part of the proof of 'ModeRuns': lemmas, no statement of their own; no condition. -/
import Derived.Test.YtghmnjmcnchinaaMoA
import Derived.Test.YtghmnjmcnchinaaProg
/- Where faults lead: a map whose entries are laid in whatever order. -/
namespace Go.Ab
open Go Go.Proofs
def lkey : Nat → Value
  | 0 => .agg #[.int .i64 1, .int .i64 1]
  | 1 => .agg #[.int .i64 2, .int .i64 1]
  | 2 => .agg #[.int .i64 2, .int .i64 4]
  | 3 => .agg #[.int .i64 2, .int .i64 2]
  | _ => .agg #[.int .i64 2, .int .i64 8]
def lone : Value := .int .i64 1
def lbuf : List Value := [lkey 0, lone, lkey 1, lone, lkey 2, lone, lkey 3, lone, lkey 4, lone]
def lopsOf : Option Code → Array Oper
  | some (.seq _ (.seq (.region _ ops _) _)) => ops
  | _ => #[]
noncomputable def lops : Array Oper := lopsOf Try.f14.body
theorem lop_size : lops.size = 13 := by kernel_rfl
noncomputable def lsig (i : Nat) : Option (Op × Option Nat × Bool × List Nat) := (lops[i]?).map fun o => (o.op, o.dst, o.guard.isNone, binding o)
theorem ls0 : lsig 0 = some (.makeMap 36 none, some 1, true, []) := by kernel_rfl
def lps : Nat → Array (Nat × Operand)
  | 0 => #[(0, .const (.int .i64 1)), (1, .const (.int .i64 1))]
  | 1 => #[(0, .const (.int .i64 2)), (1, .const (.int .i64 1))]
  | 2 => #[(0, .const (.int .i64 2)), (1, .const (.int .i64 4))]
  | 3 => #[(0, .const (.int .i64 2)), (1, .const (.int .i64 2))]
  | _ => #[(0, .const (.int .i64 2)), (1, .const (.int .i64 8))]
theorem lsB0 : lsig 1 = some (.build 39 (lps 0), some 2, true, []) := by kernel_rfl
theorem lbd0 (a : Act) (w : World) : (Instr.build 39 ((lps 0).map fun p => (p.1, a.eval p.2))).run Try.prog w = .ok (lkey 0) w := by kernel_rfl
theorem lck0 : evalSem Try.prog (Instr.checkKey false 10000 39 (lkey 0)) = some () := by kernel_rfl
theorem lap01 : eqT Try.prog 100 39 (lkey 0) (lkey 1) = some false := by kernel_rfl
theorem lap02 : eqT Try.prog 100 39 (lkey 0) (lkey 2) = some false := by kernel_rfl
theorem lap03 : eqT Try.prog 100 39 (lkey 0) (lkey 3) = some false := by kernel_rfl
theorem lap04 : eqT Try.prog 100 39 (lkey 0) (lkey 4) = some false := by kernel_rfl
theorem lsB1 : lsig 3 = some (.build 39 (lps 1), some 3, true, []) := by kernel_rfl
theorem lbd1 (a : Act) (w : World) : (Instr.build 39 ((lps 1).map fun p => (p.1, a.eval p.2))).run Try.prog w = .ok (lkey 1) w := by kernel_rfl
theorem lck1 : evalSem Try.prog (Instr.checkKey false 10000 39 (lkey 1)) = some () := by kernel_rfl
theorem lap10 : eqT Try.prog 100 39 (lkey 1) (lkey 0) = some false := by kernel_rfl
theorem lap12 : eqT Try.prog 100 39 (lkey 1) (lkey 2) = some false := by kernel_rfl
theorem lap13 : eqT Try.prog 100 39 (lkey 1) (lkey 3) = some false := by kernel_rfl
theorem lap14 : eqT Try.prog 100 39 (lkey 1) (lkey 4) = some false := by kernel_rfl
theorem lsB2 : lsig 5 = some (.build 39 (lps 2), some 4, true, []) := by kernel_rfl
theorem lbd2 (a : Act) (w : World) : (Instr.build 39 ((lps 2).map fun p => (p.1, a.eval p.2))).run Try.prog w = .ok (lkey 2) w := by kernel_rfl
theorem lck2 : evalSem Try.prog (Instr.checkKey false 10000 39 (lkey 2)) = some () := by kernel_rfl
theorem lap20 : eqT Try.prog 100 39 (lkey 2) (lkey 0) = some false := by kernel_rfl
theorem lap21 : eqT Try.prog 100 39 (lkey 2) (lkey 1) = some false := by kernel_rfl
theorem lap23 : eqT Try.prog 100 39 (lkey 2) (lkey 3) = some false := by kernel_rfl
theorem lap24 : eqT Try.prog 100 39 (lkey 2) (lkey 4) = some false := by kernel_rfl
theorem lsB3 : lsig 7 = some (.build 39 (lps 3), some 5, true, []) := by kernel_rfl
theorem lbd3 (a : Act) (w : World) : (Instr.build 39 ((lps 3).map fun p => (p.1, a.eval p.2))).run Try.prog w = .ok (lkey 3) w := by kernel_rfl
theorem lck3 : evalSem Try.prog (Instr.checkKey false 10000 39 (lkey 3)) = some () := by kernel_rfl
theorem lap30 : eqT Try.prog 100 39 (lkey 3) (lkey 0) = some false := by kernel_rfl
theorem lap31 : eqT Try.prog 100 39 (lkey 3) (lkey 1) = some false := by kernel_rfl
theorem lap32 : eqT Try.prog 100 39 (lkey 3) (lkey 2) = some false := by kernel_rfl
theorem lap34 : eqT Try.prog 100 39 (lkey 3) (lkey 4) = some false := by kernel_rfl
theorem lsB4 : lsig 9 = some (.build 39 (lps 4), some 6, true, []) := by kernel_rfl
theorem lbd4 (a : Act) (w : World) : (Instr.build 39 ((lps 4).map fun p => (p.1, a.eval p.2))).run Try.prog w = .ok (lkey 4) w := by kernel_rfl
theorem lck4 : evalSem Try.prog (Instr.checkKey false 10000 39 (lkey 4)) = some () := by kernel_rfl
theorem lap40 : eqT Try.prog 100 39 (lkey 4) (lkey 0) = some false := by kernel_rfl
theorem lap41 : eqT Try.prog 100 39 (lkey 4) (lkey 1) = some false := by kernel_rfl
theorem lap42 : eqT Try.prog 100 39 (lkey 4) (lkey 2) = some false := by kernel_rfl
theorem lap43 : eqT Try.prog 100 39 (lkey 4) (lkey 3) = some false := by kernel_rfl
theorem lsB (i : Nat) (h : i < 5) : lsig (2 * i + 1) = some (.build 39 (lps i), some (2 + i), true, []) := by
  match i, h with
  | 0, _ => exact lsB0
  | 1, _ => exact lsB1
  | 2, _ => exact lsB2
  | 3, _ => exact lsB3
  | 4, _ => exact lsB4
theorem lbd (i : Nat) (h : i < 5) (a : Act) (w : World) : (Instr.build 39 ((lps i).map fun p => (p.1, a.eval p.2))).run Try.prog w = .ok (lkey i) w := by
  match i, h with
  | 0, _ => exact lbd0 a w
  | 1, _ => exact lbd1 a w
  | 2, _ => exact lbd2 a w
  | 3, _ => exact lbd3 a w
  | 4, _ => exact lbd4 a w
theorem lkey_check (i : Nat) (h : i < 5) : evalSem Try.prog (Instr.checkKey false 10000 39 (lkey i)) = some () := by
  match i, h with
  | 0, _ => exact lck0
  | 1, _ => exact lck1
  | 2, _ => exact lck2
  | 3, _ => exact lck3
  | 4, _ => exact lck4
theorem lkey_apart (i j : Nat) (hi : i < 5) (hj : j < 5) (h : i ≠ j) : eqT Try.prog 100 39 (lkey i) (lkey j) = some false := by
  match i, j, hi, hj, h with
  | 0, 0, _, _, h => exact absurd rfl h
  | 0, 1, _, _, h => exact lap01
  | 0, 2, _, _, h => exact lap02
  | 0, 3, _, _, h => exact lap03
  | 0, 4, _, _, h => exact lap04
  | 1, 0, _, _, h => exact lap10
  | 1, 1, _, _, h => exact absurd rfl h
  | 1, 2, _, _, h => exact lap12
  | 1, 3, _, _, h => exact lap13
  | 1, 4, _, _, h => exact lap14
  | 2, 0, _, _, h => exact lap20
  | 2, 1, _, _, h => exact lap21
  | 2, 2, _, _, h => exact absurd rfl h
  | 2, 3, _, _, h => exact lap23
  | 2, 4, _, _, h => exact lap24
  | 3, 0, _, _, h => exact lap30
  | 3, 1, _, _, h => exact lap31
  | 3, 2, _, _, h => exact lap32
  | 3, 3, _, _, h => exact absurd rfl h
  | 3, 4, _, _, h => exact lap34
  | 4, 0, _, _, h => exact lap40
  | 4, 1, _, _, h => exact lap41
  | 4, 2, _, _, h => exact lap42
  | 4, 3, _, _, h => exact lap43
  | 4, 4, _, _, h => exact absurd rfl h
theorem lsI0 : lsig 2 = some (.insert 36 (.tmp 1) (.tmp 2) (.const lone), none, true, [0, 1]) := by kernel_rfl
theorem lsI1 : lsig 4 = some (.insert 36 (.tmp 1) (.tmp 3) (.const lone), none, true, [0, 3]) := by kernel_rfl
theorem lsI2 : lsig 6 = some (.insert 36 (.tmp 1) (.tmp 4) (.const lone), none, true, [0, 5]) := by kernel_rfl
theorem lsI3 : lsig 8 = some (.insert 36 (.tmp 1) (.tmp 5) (.const lone), none, true, [0, 7]) := by kernel_rfl
theorem lsI4 : lsig 10 = some (.insert 36 (.tmp 1) (.tmp 6) (.const lone), none, true, [0, 9]) := by kernel_rfl
theorem lsI (i : Nat) (h : i < 5) : lsig (2 * i + 2) = some (.insert 36 (.tmp 1) (.tmp (2 + i)) (.const lone), none, true, [0, 2 * i + 1]) := by
  match i, h with
  | 0, _ => exact lsI0
  | 1, _ => exact lsI1
  | 2, _ => exact lsI2
  | 3, _ => exact lsI3
  | 4, _ => exact lsI4
theorem lsM : lsig 11 = some (.move (.tmp 1), some 7, true, [0, 1, 2, 3, 4, 5, 6, 7, 8, 9, 10]) := by kernel_rfl
theorem lsA : lsig 12 = some (.assign (.tmp 7), some 0, true, [11, 0, 1, 2, 3, 4, 5, 6, 7, 8, 9, 10, 11]) := by kernel_rfl
theorem lsig_of {i : Nat} {op : Op} {d : Option Nat} {g : Bool} {bs : List Nat} (h : lsig i = some (op, d, g, bs)) : ∃ o, lops[i]? = some o ∧ o.op = op ∧ o.dst = d ∧ o.guard.isNone = g ∧ binding o = bs := by
  unfold lsig at h
  cases ho : lops[i]? with
  | none => rw [ho] at h; cases h
  | some o =>
    rw [ho] at h
    simp only [Option.map_some, Option.some.injEq, Prod.mk.injEq] at h
    exact ⟨o, rfl, h.1, h.2.1, h.2.2.1, h.2.2.2⟩
theorem findN_run {P : Program} {kt : TypeId} {key : Value} (w : World) : ∀ (es : List MapEntry) (i : Nat), (∀ e ∈ es, eqT P 100 kt key e.key = some false) → (Instr.findAsking kt key es i).run P w = .ok none w
  | [], i, _ => by simp [Instr.findAsking]
  | e :: es, i, h => by
    have hrun : (Op.equal kt key e.key).run P w = .ok false w := run_eqT 100 10000 kt key e.key false w (by omega) (h e (by simp))
    simp only [Instr.findAsking, Sem.run_bind, hrun, Result.andThen_ok, Bool.false_eq_true, if_false, findN_run w es (i + 1) fun x hx => h x (by simp [hx])]
theorem lstruct : ∃ fs, Try.prog.underlying 39 = some (.struct fs) := ⟨_, Try.underlying39⟩
theorem linsert {i : Nat} (hi : i < 5) {es : Array MapEntry} {c r : Nat} {w : World} (hr : w.heap[r]? = some (.map es c)) (h : ∀ e ∈ es.toList, eqT Try.prog 100 39 (lkey i) e.key = some false) :
    (Instr.mapUpdate 36 (.map (some r)) (lkey i) lone).run Try.prog w = .ok () { w with heap := w.heap.setIfInBounds r (.map (es.push { key := lkey i, val := lone, born := c }) (c + 1)) } := by
  have hg : (getObj r).run Try.prog w = .ok (.map es c) w := by simp [getObj, Sem.run, hr]
  have hs : ∀ o, (setObj r o).run Try.prog w = .ok () { w with heap := w.heap.setIfInBounds r o } := by intro o; simp [setObj, Sem.run, hr]
  obtain ⟨fs, hst⟩ := lstruct
  have hf : (Instr.findKey 39 (lkey i) es.toList).run Try.prog w = .ok none w := by
    unfold Instr.findKey
    simp only [Sem.run_bind, run_underlying hst, Result.andThen_ok]
    cases hl : es.toList with
    | nil => simp [Instr.findNow]
    | cons e es' =>
      have : Instr.findNow (.struct fs) (lkey i) (e :: es') 0 = none := by simp [Instr.findNow, Instr.sameNow]
      rw [this]
      exact findN_run w _ 0 fun x hx => h x (by rw [hl]; exact hx)
  unfold Instr.mapUpdate
  have hu : Try.prog.underlying 36 = some (.map 39 3) := by kernel_rfl
  simp only [Sem.run_bind, run_underlying hu, Result.andThen_ok, hg, evalSem_run (lkey_check i hi) w, hf, hs]
/-- What holds while the map is made: L tells which operations are done. -/
structure LI (w0 : World) (L : Nat → Bool) (a : Act) (w : World) : Prop where
  defers : a.defers = []
  size : a.tmps.size = 8
  os : w.os = w0.os
  tape : w.tape = w0.tape
  output : w.output = w0.output
  m0 : L 0 = false → w.heap = w0.heap
  m1 : L 0 = true → a.tmps[1]? = some (.map (some w0.heap.size)) ∧ ∃ es c, w.heap = w0.heap.push (.map es c) ∧ ∀ p, p ∈ es.toList.map kvOf ↔ ∃ i, i < 5 ∧ L (2 * i + 2) = true ∧ p = (lkey i, lone)
  bd : ∀ i, i < 5 → L (2 * i + 1) = true → a.tmps[2 + i]? = some (lkey i)
  mv : L 11 = true → a.tmps[7]? = some (.map (some w0.heap.size))
  asg : L 12 = true → a.tmps[0]? = some (.map (some w0.heap.size))
  no : L 0 = false → ∀ i, i < 5 → L (2 * i + 2) = false
def lset (L : Nat → Bool) (j : Nat) : Nat → Bool := fun i => if i = j then true else L i
theorem lset_at (L : Nat → Bool) (j : Nat) : lset L j j = true := by simp [lset]
theorem lset_ne (L : Nat → Bool) {i j : Nat} (h : i ≠ j) : lset L j i = L i := by simp [lset, h]
theorem lput {a : Act} {d t : Nat} {v : Value} (h : t ≠ d) : (a.put (some d) v).tmps[t]? = a.tmps[t]? := by
  simp only [Act.put]
  rw [Array.getElem?_setIfInBounds_ne (Ne.symm h)]
theorem lput_at {a : Act} {d : Nat} {v : Value} (h : d < a.tmps.size) : (a.put (some d) v).tmps[d]? = some v := by
  simp [Act.put, h]
theorem LI.of {a : Act} {w : World} {j : Nat} {o : Oper} (ho : lops[j]? = some o) (hg : o.guard.isNone = true) {Q : Exit → Act → World → Prop} {K : Act → World → Prop}
    (hrun : (∃ v w', (execOp a.eval o).run Try.prog w = .ok (.value v) w' ∧ K (a.put o.dst v) w') ∨ ∃ w', (execOp a.eval o).run Try.prog w = .ok .skip w' ∧ K (a.put o.dst undef) w') : wpOp Try.prog lops Q j K a w := by
  unfold wpOp
  rw [ho]
  simp only
  rw [if_pos (by cases hgo : o.guard with | none => simp [Region.wanted, hgo] | some x => rw [hgo] at hg; cases hg)]
  refine .inl ?_
  unfold Oper.wp
  rcases hrun with ⟨v, w', h1, h2⟩ | ⟨w', h1, h2⟩
  · rw [h1]; exact h2
  · rw [h1]; exact h2
theorem LI.step {w0 : World} {L : Nat → Bool} {a : Act} {w : World} (h : LI w0 L a w) {j : Nat} (hL : L j = false) {o : Oper} (ho : lops[j]? = some o) (hpre : ∀ k ∈ binding o, L k = true) (Q : Exit → Act → World → Prop) (K : Act → World → Prop)
    (hK : ∀ a' w', LI w0 (lset L j) a' w' → K a' w') : wpOp Try.prog lops Q j K a w := by
  have hj : j < 13 := by rw [← lop_size]; exact (Array.getElem?_eq_some_iff.1 ho).1
  have h8 := h.size
  have hcase : j = 0 ∨ (∃ i, i < 5 ∧ j = 2 * i + 1) ∨ (∃ i, i < 5 ∧ j = 2 * i + 2) ∨ j = 11 ∨ j = 12 := by
    rcases Nat.lt_or_ge j 11 with h11 | h11
    · by_cases h2 : j % 2 = 1
      · exact .inr (.inl ⟨j / 2, by omega, by omega⟩)
      · by_cases h0 : j = 0
        · exact .inl h0
        · exact .inr (.inr (.inl ⟨j / 2 - 1, by omega, by omega⟩))
    · omega
  rcases hcase with rfl | ⟨i, hi, rfl⟩ | ⟨i, hi, rfl⟩ | rfl | rfl
  · obtain ⟨o', ho', hop, hd, hg, _⟩ := lsig_of ls0
    rw [ho] at ho'; cases ho'
    have hm := h.m0 hL
    refine LI.of ho hg (.inl ⟨.map (some w.heap.size), w.alloc (.map #[] 0), ?_, hK _ _ ?_⟩)
    · simp only [execOp, hop, Option.map_none, Instr.makeMap, Sem.run_bind, Result.andThen_ok, run_newObj, Sem.run_pure, World.alloc_eq]
    · rw [hd, hm]
      refine ⟨h.defers, by simp [Act.put, h.size], h.os, h.tape, h.output, fun h0 => ?_, fun _ => ⟨lput_at (by omega), #[], 0, ?_, fun p => ?_⟩, fun i hi hl => ?_, fun hl => ?_, fun hl => ?_, fun h0 => ?_⟩
      · rw [lset_at] at h0; cases h0
      · show w.heap.push _ = _; rw [hm]
      · constructor
        · intro hp; simp at hp
        · rintro ⟨i, hi, hl, _⟩
          rw [lset_ne _ (by omega), h.no hL i hi] at hl; cases hl
      · rw [lput (by omega)]; exact h.bd i hi (by rw [lset_ne _ (by omega)] at hl; exact hl)
      · rw [lput (by omega)]; exact h.mv (by rw [lset_ne _ (by omega)] at hl; exact hl)
      · rw [lput (by omega)]; exact h.asg (by rw [lset_ne _ (by omega)] at hl; exact hl)
      · rw [lset_at] at h0; cases h0
  · have hb := lbd i hi
    obtain ⟨o', ho', hop, hd, hg, _⟩ := lsig_of (lsB i hi)
    rw [ho] at ho'; cases ho'
    refine LI.of ho hg (.inl ⟨lkey i, w, ?_, hK _ _ ?_⟩)
    · simp only [execOp, hop, Sem.run_bind, hb a w, Result.andThen_ok, Sem.run_pure]
    · rw [hd]
      refine ⟨h.defers, by simp [Act.put, h.size], h.os, h.tape, h.output, fun h0 => ?_, fun h0 => ?_, fun k hk hl => ?_, fun hl => ?_, fun hl => ?_, fun h0 k hk => ?_⟩
      · exact h.m0 (by rw [lset_ne _ (by omega)] at h0; exact h0)
      · obtain ⟨h1, es, c, h2, h3⟩ := h.m1 (by rw [lset_ne _ (by omega)] at h0; exact h0)
        refine ⟨by rw [lput (by omega)]; exact h1, es, c, h2, fun p => (h3 p).trans ⟨?_, ?_⟩⟩
        · rintro ⟨k, k1, k2, k3⟩; exact ⟨k, k1, by rw [lset_ne _ (by omega)]; exact k2, k3⟩
        · rintro ⟨k, k1, k2, k3⟩; exact ⟨k, k1, by rw [lset_ne _ (by omega)] at k2; exact k2, k3⟩
      · by_cases e : k = i
        · subst e; exact lput_at (by omega)
        · rw [lput (by omega)]; exact h.bd k hk (by rw [lset_ne _ (by omega)] at hl; exact hl)
      · rw [lput (by omega)]; exact h.mv (by rw [lset_ne _ (by omega)] at hl; exact hl)
      · rw [lput (by omega)]; exact h.asg (by rw [lset_ne _ (by omega)] at hl; exact hl)
      · rw [lset_ne _ (by omega)]; exact h.no (by rw [lset_ne _ (by omega)] at h0; exact h0) k hk
  · obtain ⟨o', ho', hop, hd, hg, hbind⟩ := lsig_of (lsI i hi)
    rw [ho] at ho'; cases ho'
    have h0 : L 0 = true := hpre 0 (by rw [hbind]; simp)
    have hb : L (2 * i + 1) = true := hpre _ (by rw [hbind]; simp)
    obtain ⟨h1, es, c, h2, h3⟩ := h.m1 h0
    have hkey := h.bd i hi hb
    have hr : w.heap[w0.heap.size]? = some (.map es c) := by rw [h2]; simp
    have hapart : ∀ e ∈ es.toList, eqT Try.prog 100 39 (lkey i) e.key = some false := by
      intro e he
      obtain ⟨k, k1, k2, k3⟩ := (h3 (kvOf e)).1 (List.mem_map.2 ⟨e, he, rfl⟩)
      have hk : e.key = lkey k := by have := congrArg Prod.fst k3; exact this
      rw [hk]
      refine lkey_apart i k hi k1 fun e2 => ?_
      subst e2
      rw [hL] at k2; cases k2
    have e1 : a.eval (.tmp 1) = .map (some w0.heap.size) := by simp [Act.eval, h1]
    have e2 : a.eval (.tmp (2 + i)) = lkey i := by simp [Act.eval, hkey]
    have e3 : a.eval (.const lone) = lone := rfl
    refine LI.of ho hg (.inr ⟨_, by simp only [execOp, hop, e1, e2, e3, Sem.run_bind, linsert hi hr hapart, Result.andThen_ok, Sem.run_pure]; rfl, hK _ _ ?_⟩)
    rw [hd]
    refine ⟨h.defers, h.size, h.os, h.tape, h.output, fun h0' => ?_, fun _ => ⟨h1, es.push { key := lkey i, val := lone, born := c }, c + 1, ?_, fun p => ?_⟩, fun k hk hl => ?_, fun hl => ?_, fun hl => ?_, fun h0' k hk => ?_⟩
    · rw [lset_ne _ (by omega), h0] at h0'; cases h0'
    · show w.heap.setIfInBounds w0.heap.size _ = _
      rw [h2]
      apply Array.ext'
      simp
    · simp only [Array.toList_push, List.map_append, List.map_cons, List.map_nil, List.mem_append, List.mem_singleton]
      rw [h3 p]
      constructor
      · rintro (⟨k, k1, k2, k3⟩ | e)
        · refine ⟨k, k1, ?_, k3⟩
          by_cases e : k = i
          · subst e; exact lset_at _ _
          · rw [lset_ne _ (by omega)]; exact k2
        · exact ⟨i, hi, lset_at _ _, e⟩
      · rintro ⟨k, k1, k2, k3⟩
        by_cases e : k = i
        · subst e; exact .inr k3
        · exact .inl ⟨k, k1, by rw [lset_ne _ (by omega)] at k2; exact k2, k3⟩
    · exact h.bd k hk (by rw [lset_ne _ (by omega)] at hl; exact hl)
    · exact h.mv (by rw [lset_ne _ (by omega)] at hl; exact hl)
    · exact h.asg (by rw [lset_ne _ (by omega)] at hl; exact hl)
    · rw [lset_ne _ (by omega), h0] at h0'; cases h0'
  · obtain ⟨o', ho', hop, hd, hg, hbind⟩ := lsig_of lsM
    rw [ho] at ho'; cases ho'
    have h0 : L 0 = true := hpre 0 (by rw [hbind]; simp)
    obtain ⟨h1, es, c, h2, h3⟩ := h.m1 h0
    have e1 : a.eval (.tmp 1) = .map (some w0.heap.size) := by simp [Act.eval, h1]
    refine LI.of ho hg (.inl ⟨.map (some w0.heap.size), w, by simp only [execOp, hop, e1, Sem.run_pure], hK _ _ ?_⟩)
    rw [hd]
    refine ⟨h.defers, by simp [Act.put, h.size], h.os, h.tape, h.output, fun h0' => ?_, fun _ => ⟨by rw [lput (by omega)]; exact h1, es, c, h2, fun p => (h3 p).trans ⟨?_, ?_⟩⟩, fun k hk hl => ?_, fun hl => ?_, fun hl => ?_, fun h0' k hk => ?_⟩
    · rw [lset_ne _ (by omega), h0] at h0'; cases h0'
    · rintro ⟨k, k1, k2, k3⟩; exact ⟨k, k1, by rw [lset_ne _ (by omega)]; exact k2, k3⟩
    · rintro ⟨k, k1, k2, k3⟩; exact ⟨k, k1, by rw [lset_ne _ (by omega)] at k2; exact k2, k3⟩
    · rw [lput (by omega)]; exact h.bd k hk (by rw [lset_ne _ (by omega)] at hl; exact hl)
    · exact lput_at (by omega)
    · rw [lput (by omega)]; exact h.asg (by rw [lset_ne _ (by omega)] at hl; exact hl)
    · rw [lset_ne _ (by omega), h0] at h0'; cases h0'
  · obtain ⟨o', ho', hop, hd, hg, hbind⟩ := lsig_of lsA
    rw [ho] at ho'; cases ho'
    have h0 : L 0 = true := hpre 0 (by rw [hbind]; simp)
    have h11 : L 11 = true := hpre 11 (by rw [hbind]; simp)
    obtain ⟨h1, es, c, h2, h3⟩ := h.m1 h0
    have e1 : a.eval (.tmp 7) = .map (some w0.heap.size) := by simp [Act.eval, h.mv h11]
    refine LI.of ho hg (.inl ⟨.map (some w0.heap.size), w, by simp only [execOp, hop, e1, Sem.run_pure], hK _ _ ?_⟩)
    rw [hd]
    refine ⟨h.defers, by simp [Act.put, h.size], h.os, h.tape, h.output, fun h0' => ?_, fun _ => ⟨by rw [lput (by omega)]; exact h1, es, c, h2, fun p => (h3 p).trans ⟨?_, ?_⟩⟩, fun k hk hl => ?_, fun hl => ?_, fun hl => ?_, fun h0' k hk => ?_⟩
    · rw [lset_ne _ (by omega), h0] at h0'; cases h0'
    · rintro ⟨k, k1, k2, k3⟩; exact ⟨k, k1, by rw [lset_ne _ (by omega)]; exact k2, k3⟩
    · rintro ⟨k, k1, k2, k3⟩; exact ⟨k, k1, by rw [lset_ne _ (by omega)] at k2; exact k2, k3⟩
    · rw [lput (by omega)]; exact h.bd k hk (by rw [lset_ne _ (by omega)] at hl; exact hl)
    · rw [lput (by omega)]; exact h.mv (by rw [lset_ne _ (by omega)] at hl; exact hl)
    · exact lput_at (by omega)
    · rw [lset_ne _ (by omega), h0] at h0'; cases h0'
theorem least_of (p : Nat → Prop) (h : ∃ i, p i) : ∃ i, p i ∧ ∀ k, k < i → ¬ p k := by
  obtain ⟨i, hi⟩ := h
  induction i using Nat.strongRecOn with
  | ind i ih =>
    by_cases hk : ∃ k, k < i ∧ p k
    · obtain ⟨k, h1, h2⟩ := hk
      exact ih k h1 h2
    · exact ⟨i, hi, fun k h1 h2 => hk ⟨k, h1, h2⟩⟩
theorem ledges (i : Nat) (o : Oper) (h : lops[i]? = some o) : ∀ k ∈ binding o, k < i := by
  have hed : edgesOk 0 lops.toList = true := by kernel_rfl
  intro k hk
  have := edgesOk_spec _ 0 hed i o (by simpa using h) k hk
  omega
theorem filter_set : ∀ (l : List Bool) (j : Nat) (h : j < l.length), l[j] = false → ((l.set j true).filter (!·)).length + 1 = (l.filter (!·)).length
  | [], j, h, _ => by simp at h
  | b :: l, 0, _, hb => by simp at hb; subst hb; simp
  | b :: l, j + 1, h, hb => by
    have ih := filter_set l j (by simpa using h) (by simpa using hb)
    cases b <;> simp <;> omega
theorem LI.all {w0 : World} (Q : Exit → Act → World → Prop) (hQ : ∀ L a w, LI w0 L a w → (∀ i, i < 13 → L i = true) → Q .normal a w) : ∀ (n : Nat) (ls : Array Bool) (a : Act) (w : World), ls.size = 13 → (ls.toList.filter (!·)).length = n →
    LI w0 (fun i => ls.getD i true) a w → wpAny Try.prog .any lops Q n ls a w
  | 0, ls, a, w, hs, hn, h => by
    have hall : ∀ i, i < 13 → ls.getD i true = true := by
      intro i hi
      have hlt : i < ls.size := by omega
      cases hv : ls.getD i true with
      | true => rfl
      | false =>
        have hv2 : ls[i] = false := by simpa [hlt] using hv
        have : (false : Bool) ∈ ls.toList.filter (!·) := by
          rw [List.mem_filter]
          exact ⟨by rw [← hv2]; exact Array.mem_toList_iff.2 (Array.getElem_mem hlt), rfl⟩
        rw [List.eq_nil_of_length_eq_zero hn] at this
        cases this
    refine ⟨?_, hQ _ a w h hall⟩
    cases hr : Region.ready .any lops ls with
    | nil => rfl
    | cons j r =>
      have hj : j ∈ Region.ready .any lops ls := by rw [hr]; simp
      obtain ⟨h1, o, h2, _⟩ := mem_ready.1 hj
      have : j < 13 := by rw [← lop_size]; exact (Array.getElem?_eq_some_iff.1 h2).1
      rw [hall j this] at h1; cases h1
  | n + 1, ls, a, w, hs, hn, h => by
    refine ⟨fun h0 => ?_, fun j hj => ?_⟩
    · exfalso
      -- the first that isn't listed is ready
      have hex : ∃ i, i < 13 ∧ ls.getD i true = false := by
        have : ∃ b, b ∈ ls.toList.filter (!·) := List.exists_mem_of_length_pos (by omega)
        obtain ⟨b, hb⟩ := this
        rw [List.mem_filter] at hb
        obtain ⟨hb1, hb2⟩ := hb
        obtain ⟨i, hi, e⟩ := List.getElem_of_mem hb1
        have hi2 : i < ls.size := by simpa using hi
        refine ⟨i, by omega, ?_⟩
        have e2 : ls[i] = b := by simpa using e
        have hbf : b = false := by cases b <;> simp_all
        simp [hi2, e2, hbf]
      obtain ⟨i, ⟨hi, hv⟩, hmin⟩ := least_of (fun i => i < 13 ∧ ls.getD i true = false) hex
      have ho : lops[i]? = some lops[i] := Array.getElem?_eq_getElem (by rw [lop_size]; exact hi)
      have hb := ledges i lops[i] ho
      have : i ∈ Region.ready .any lops ls := by
        refine mem_ready.2 ⟨hv, _, ho, fun e he hbd => ?_⟩
        have hlt := hb e.on (mem_binding.2 ⟨e, he, hbd, rfl⟩)
        cases hvv : ls.getD e.on true with
        | true =>
          have h13 : e.on < ls.size := by omega
          simpa [h13] using hvv
        | false => exact absurd ⟨by omega, hvv⟩ (hmin e.on hlt)
      rw [h0] at this
      cases this
    · obtain ⟨h1, o, h2, h3⟩ := mem_ready.1 hj
      have hlt : j < 13 := by rw [← lop_size]; exact (Array.getElem?_eq_some_iff.1 h2).1
      have hjs : j < ls.size := by omega
      have hpre : ∀ k ∈ binding o, (fun i => ls.getD i true) k = true := by
        intro k hk
        obtain ⟨e, h4, h5, rfl⟩ := mem_binding.1 hk
        have := h3 e h4 h5
        by_cases hks : e.on < ls.size
        · simpa [hks] using this
        · simp [hks]
      refine h.step h1 h2 hpre Q _ fun a' w' h' => ?_
      refine LI.all Q hQ n _ a' w' (by simpa using hs) ?_ ?_
      · have hvj : ls[j] = false := by simpa [hjs] using h1
        have := filter_set ls.toList j (by simpa using hjs) (by simpa using hvj)
        rw [hn] at this
        simpa [Array.setIfInBounds, hjs] using this
      · have e : (fun i => (ls.setIfInBounds j true).getD i true) = lset (fun i => ls.getD i true) j := by
          funext i
          by_cases e : i = j
          · subst e; rw [lset_at]; simp [hjs]
          · rw [lset_ne _ e, getD_set_ne true (Ne.symm e)]
        rw [e]
        exact h'
end Go.Ab
