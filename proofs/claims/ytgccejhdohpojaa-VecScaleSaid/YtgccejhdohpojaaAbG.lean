/- A part of the proof of 'VecScale': lemmas, no statement of their own; no condition. -/
import Derived.Test.YtgccejhdohpojaaAbF
namespace Go.Ab
variable {β : Type}
section
variable {P : Program} {N : Nat} {ops : Array Oper} {i : Nat} {tmps : List AV} {heap : Hp} {o : Oper} {rd : Wr} {lo hi : Nat} {K : Wr → Wr → Option β} {res : β}

theorem sliceCells_run {t : TypeId} {len : Nat} {parts : List (Nat × Value)} {elem : TypeId} {cells : List Value} (h : sliceCells P t len parts = some (elem, cells)) (w : World) :
    (Instr.buildSlice t len (List.toArray parts)).run P w = .ok (.slice (some ⟨w.heap.size, 0, none⟩) len len) (w.alloc (.cells (List.toArray cells) elem)) := by
  unfold sliceCells at h
  split at h
  · rename_i e hu
    split at h
    · rename_i ti hi'
      split at h
      · rename_i z h1 h2 hz
        have h1 := of_decide_eq_false h1
        have h2 := of_decide_eq_false h2
        split at h
        · rename_i cs hcs
          cases h
          unfold Instr.buildSlice
          simp only [Sem.run_bind, run_underlying hu, Result.andThen_ok, run_sizeOf hi', if_neg h1, if_neg h2, Sem.run_pure, run_zeroValue hi' hz, hcs, newRow, run_newObj, World.alloc_eq, Array.toArray_toList]
        · cases h
      · cases h
    · cases h
  · cases h

theorem parts_val {N : Nat} {w0 : World} {own : Nat → Prop} {σ : Nat → Option Nat} {u : U} {a : Act} {w : World} (hf : Fits N w0 own σ u a w) {parts : List (Nat × Operand)}
    (hr : ∀ x ∈ parts.map (·.2), ∀ p ∈ rdOf tmps x, u p.1 = some p.2) (h : (parts.map (·.2)).all (isVal tmps) = true) :
    (parts.map fun p => (p.1, a.eval p.2)) = parts.map fun p => (p.1, valEnv tmps p.2) := by
  apply List.map_congr_left
  intro p hp
  rw [valEnv_eval hf (hr p.2 (List.mem_map.2 ⟨p, hp, rfl⟩)) (List.all_eq_true.1 h p.2 (List.mem_map.2 ⟨p, hp, rfl⟩))]

theorem opBuildSlice_done {t : TypeId} {len : Nat} {parts : Array (Nat × Operand)} (hop : o.op = .buildSlice t len parts) (ho : ops[i]? = some o) (hw : Want N ops o rd) (hg : Good tmps heap rd) (hsub : ∀ p ∈ rdAll tmps o, p ∈ rd) (h : opBuildSlice P N tmps o rd t len parts lo hi K = some res) : Done P N ops i tmps heap lo hi K res := by
  unfold opBuildSlice at h
  split at h
  · rename_i hall hlt
    have hlt := of_decide_eq_true hlt
    split at h
    · rename_i elem cells hc
      obtain ⟨rd', wr, h1, rfl, h2⟩ := fin_value (P := P) (lo := lo) (hi := hi) ho h hw fun w0 own σ u a w hf hr hn => by
        have hmap := parts_val hf (parts := parts.toList) (fun x hx => mem_rdAll (o := o) (by
          simp only [hop, Op.operands]
          simpa using hx) hsub hr) hall
        obtain ⟨h3, h4⟩ := hf.alloc (hn lo (Nat.le_refl _) hlt) (e := elem) (Rels.vals (σ := σ) cells)
        refine ⟨_, .slice (some ⟨w.heap.size, 0, none⟩) len len, _, ?_, h4, ?_, h3, ?_⟩
        · have e1 : (parts.map fun (x : Nat × Operand) => (x.1, a.eval x.2)) = List.toArray (parts.toList.map fun p => (p.1, valEnv tmps p.2)) := by
            rw [← hmap]
            apply Array.toList_inj.1
            simp
          simp only [execOp, hop, Sem.run_bind]
          have e2 := sliceCells_run hc w
          rw [← e1] at e2
          rw [e2]
          rfl
        · intro b hb hb2
          show (if b = lo then _ else σ b) = none
          rw [if_neg (by omega)]; exact hb
        · simp only [Rel]; exact ⟨w.heap.size, by simp, rfl⟩
      exact ⟨rd', wr, h1, hg, h2⟩
    · cases h
  · cases h

theorem opdL_rels {N : Nat} {w0 : World} {own : Nat → Prop} {σ : Nat → Option Nat} {u : U} {a : Act} {w : World} (hf : Fits N w0 own σ u a w) : ∀ {xs : List Operand} {as : List AV},
    (∀ x ∈ xs, ∀ p ∈ rdOf tmps x, u p.1 = some p.2) → opdL tmps xs = some as → Rels σ as (xs.map a.eval)
  | [], as, _, h => by simp [opdL] at h; subst h; simp [Rels]
  | x :: xs, as, hr, h => by
    simp only [opdL] at h
    split at h
    · rename_i b l hb hl
      cases h
      simp only [List.map_cons, Rels]
      exact ⟨_, _, rfl, opd_rel hf (hr x (List.mem_cons_self ..)) hb, opdL_rels hf (fun y hy => hr y (List.mem_cons_of_mem _ hy)) hl⟩
    · cases h

theorem opMakeFunc_done {fn : Fn} {first captured : Array Operand} (hop : o.op = .makeFunc fn first captured) (ho : ops[i]? = some o) (hw : Want N ops o rd) (hg : Good tmps heap rd) (hsub : ∀ p ∈ rdAll tmps o, p ∈ rd) (h : opMakeFunc N tmps o rd fn first captured K = some res) : Done P N ops i tmps heap lo hi K res := by
  unfold opMakeFunc at h
  split at h
  · rename_i f a b ha hb
    refine fin_done ho hw hg h fun w0 own σ u a' w hf hr => ?_
    refine ⟨.func (.func f) (List.toArray (first.toList.map a'.eval)) (List.toArray (captured.toList.map a'.eval)), ?_, ?_⟩
    · simp [execOp, hop, Instr.makeFunc]
      constructor <;> (apply Array.toList_inj.1; simp)
    · simp only [Rel]
      exact ⟨_, _, rfl, opdL_rels hf (fun x hx => mem_rdAll (o := o) (by simp only [hop, Op.operands]; simp at hx; simp [hx]) hsub hr) ha,
        opdL_rels hf (fun x hx => mem_rdAll (o := o) (by simp only [hop, Op.operands]; simp at hx; simp [hx]) hsub hr) hb⟩
  · cases h

theorem opExtract_done {x : Operand} {ix : Nat} (hop : o.op = .extract x ix) (ho : ops[i]? = some o) (hw : Want N ops o rd) (hg : Good tmps heap rd) (hsub : ∀ p ∈ rdAll tmps o, p ∈ rd) (h : opExtract P N tmps o rd x ix K = some res) : Done P N ops i tmps heap lo hi K res := by
  have hx : x ∈ o.op.operands := by simp [hop, Op.operands]
  unfold opExtract at h
  split at h
  · rename_i vs ha
    split at h
    · rename_i a hv
      refine fin_done ho hw hg h fun w0 own σ u a' w hf hr => ?_
      have h1 := opd_rel hf (mem_rdAll hx hsub hr) ha
      simp only [Rel] at h1
      obtain ⟨xs, e, hrels⟩ := h1
      obtain ⟨v, h2, h3⟩ := Rels.get hrels hv
      refine ⟨v, ?_, h3⟩
      simp [execOp, hop, e, Instr.extract, h2]
    · cases h
  · exact opVal_done ho hw hg hsub h

theorem lookA_run {t : TypeId} {es : Array MapEntry} {c r : Nat} {k v : Value} {ok : Bool} (h : lookA P t es k ok = some v) {w : World} (hr : w.heap[r]? = some (.map es c)) : (Instr.lookup t (.map (some r)) k ok).run P w = .ok v w := by
  unfold lookA at h
  split at h
  · rename_i kt et hu
    have hg : (getObj r).run P w = .ok (.map es c) w := by simp [getObj, Sem.run, hr]
    split at h
    · rename_i i v0 hc hf
      cases h
      unfold Instr.lookup
      simp only [Sem.run_bind, run_underlying hu, Result.andThen_ok, hg, Sem.run_pure, evalSem_run hc w, evalSem_run hf w]
      cases ok <;> rfl
    · rename_i z hc hf hz
      cases h
      have hz' : (zeroValue et).run P w = .ok z w := by
        cases hi : P.info? et with
        | none => simp [hi] at hz
        | some ti => simp [hi] at hz; exact run_zeroValue hi hz w
      unfold Instr.lookup
      simp only [Sem.run_bind, run_underlying hu, Result.andThen_ok, hg, Sem.run_pure, evalSem_run hc w, evalSem_run hf w, hz']
      cases ok <;> rfl
    · cases h
  · cases h

theorem putA_run {t : TypeId} {es es' : Array MapEntry} {c c' r : Nat} {k v : Value} (h : putA P t es c k v = some (es', c')) {w : World} (hr : w.heap[r]? = some (.map es c)) :
    (Instr.mapUpdate t (.map (some r)) k v).run P w = .ok () { w with heap := w.heap.setIfInBounds r (.map es' c') } := by
  unfold putA at h
  split at h
  · rename_i kt et hu
    have hg : (getObj r).run P w = .ok (.map es c) w := by simp [getObj, Sem.run, hr]
    have hs : ∀ o, (setObj r o).run P w = .ok () { w with heap := w.heap.setIfInBounds r o } := by intro o; simp [setObj, Sem.run, hr]
    split at h
    · rename_i i v0 hc hf
      split at h
      · rename_i key' hk
        cases h
        unfold Instr.mapUpdate
        simp only [Sem.run_bind, run_underlying hu, Result.andThen_ok, hg, evalSem_run hc w, evalSem_run hf w, evalSem_run hk w, hs]
      · cases h
    · rename_i hc hf
      cases h
      unfold Instr.mapUpdate
      simp only [Sem.run_bind, run_underlying hu, Result.andThen_ok, hg, evalSem_run hc w, evalSem_run hf w, hs]
    · cases h
  · cases h

theorem opMakeMap_done {t : TypeId} {r : Option Operand} (hop : o.op = .makeMap t r) (ho : ops[i]? = some o) (hw : Want N ops o rd) (hg : Good tmps heap rd) (h : opMakeMap N o rd r lo hi K = some res) : Done P N ops i tmps heap lo hi K res := by
  unfold opMakeMap at h
  split at h
  · rename_i hlt
    have hlt := of_decide_eq_true hlt
    obtain ⟨rd', wr, h1, rfl, h2⟩ := fin_value (P := P) (lo := lo) (hi := hi) ho h hw fun w0 own σ u a w hf hr hn => by
      obtain ⟨h3, h4⟩ := hf.allocO (hn lo (Nat.le_refl _) hlt) (.map #[] 0)
      refine ⟨_, .map (some w.heap.size), _, ?_, h4, ?_, h3, ?_⟩
      · simp only [execOp, hop, Option.map_none, Instr.makeMap, Sem.run_bind, Result.andThen_ok, run_newObj, Sem.run_pure, World.alloc_eq]
      · intro b hb hb2
        show (if b = lo then _ else σ b) = none
        rw [if_neg (by omega)]; exact hb
      · simp only [Rel]; exact ⟨w.heap.size, by simp, rfl⟩
    exact ⟨rd', wr, h1, hg, h2⟩
  · cases h

theorem opPut_done {t : TypeId} {m x y : Operand} (hop : o.op = .mapUpdate t m x y ∨ o.op = .insert t m x y) (ho : ops[i]? = some o) (hw : Want N ops o rd) (hg : Good tmps heap rd) (hsub : ∀ p ∈ rdAll tmps o, p ∈ rd) (h : opPut P tmps heap o rd t m x y K = some res) : Done P N ops i tmps heap lo hi K res := by
  have hm : m ∈ o.op.operands := by rcases hop with e | e <;> simp [e, Op.operands]
  have hx : x ∈ o.op.operands := by rcases hop with e | e <;> simp [e, Op.operands]
  have hy : y ∈ o.op.operands := by rcases hop with e | e <;> simp [e, Op.operands]
  unfold opPut at h
  split at h
  · cases h
  · rename_i hdst
    split at h
    · rename_i b k v hm' hk' hv'
      split at h
      · rename_i es c hh
        split at h
        · rename_i es' c' hp
          refine ⟨_, _, h, hg.cons hh, exec_of_wp ho (fun w0 own σ u a w hf hr => hw w0 own σ u a w hf fun y hy => hr y (List.mem_cons_of_mem _ hy)) fun Q w0 own σ u a w hf hr hn K' hK => ?_⟩
          have hsub' : ∀ p ∈ rdAll tmps o, p ∈ (Loc.blk b, Con.obj (.map es c)) :: rd := fun p hp => List.mem_cons_of_mem _ (hsub p hp)
          have h1 := opd_rel hf (mem_rdAll hm hsub' hr) hm'
          have h2 := opd_rel hf (mem_rdAll hx hsub' hr) hk'
          have h3 := opd_rel hf (mem_rdAll hy hsub' hr) hv'
          simp only [Rel] at h1 h2 h3
          obtain ⟨rr, hr1, e1⟩ := h1
          have hu := hr (.blk b, .obj (.map es c)) (List.mem_cons_self ..)
          obtain ⟨r2, hr2, hheap⟩ := hf.obj b _ hu
          rw [hr1] at hr2
          cases hr2
          have hrun := putA_run hp hheap
          have hexec : (execOp a.eval o).run P w = .ok .skip { w with heap := w.heap.setIfInBounds rr (.map es' c') } := by
            rcases hop with e | e <;> simp only [execOp, e, e1, h2, h3, Sem.run_bind, hrun, Result.andThen_ok, Sem.run_pure]
          unfold Oper.wp
          rw [hexec]
          simp only [Oper.upon]
          refine hK σ _ _ (Le.refl σ) (fun _ h _ => h) ?_
          rw [hdst]
          exact hf.setO hr1 hu
        · cases h
      · cases h
    · cases h

theorem opLook_done {t : TypeId} {m x : Operand} {ok : Bool} (hop : o.op = .lookup t m x ok) (ho : ops[i]? = some o) (hw : Want N ops o rd) (hg : Good tmps heap rd) (hsub : ∀ p ∈ rdAll tmps o, p ∈ rd) (h : opLook P N tmps heap o rd t m x ok K = some res) : Done P N ops i tmps heap lo hi K res := by
  have hm : m ∈ o.op.operands := by simp [hop, Op.operands]
  have hx : x ∈ o.op.operands := by simp [hop, Op.operands]
  unfold opLook at h
  split at h
  · rename_i b k hm' hk'
    split at h
    · rename_i es c hh
      split at h
      · rename_i v hv
        refine fin_done ho (fun w0 own σ u a w hf hr => hw w0 own σ u a w hf fun y hy => hr y (List.mem_cons_of_mem _ hy)) (hg.cons hh) h fun w0 own σ u a' w hf hr => ?_
        have hsub' : ∀ p ∈ rdAll tmps o, p ∈ (Loc.blk b, Con.obj (.map es c)) :: rd := fun p hp => List.mem_cons_of_mem _ (hsub p hp)
        have h1 := opd_rel hf (mem_rdAll hm hsub' hr) hm'
        have h2 := opd_rel hf (mem_rdAll hx hsub' hr) hk'
        simp only [Rel] at h1 h2
        obtain ⟨rr, hr1, e1⟩ := h1
        obtain ⟨r2, hr2, hheap⟩ := hf.obj b _ (hr (.blk b, .obj (.map es c)) (List.mem_cons_self ..))
        rw [hr1] at hr2
        cases hr2
        refine ⟨v, ?_, by simp only [Rel]⟩
        simp only [execOp, hop, e1, h2, Sem.run_bind, lookA_run hv hheap, Result.andThen_ok, Sem.run_pure]
      · cases h
    · cases h
  · cases h

theorem hpRd_mem {H : Hp} {u : U} (h : ∀ p ∈ hpRd H, u p.1 = some p.2) {b : Nat} {c : Con} (hb : hget H b = some c) : u (.blk b) = some c := by
  have : (b, c) ∈ H := by
    clear h
    induction H with
    | nil => simp [hget] at hb
    | cons p H ih =>
      obtain ⟨b', c'⟩ := p
      simp only [hget] at hb
      split at hb
      · rename_i e; cases hb; rw [Nat.eq_of_beq_eq_true e]; simp
      · exact List.mem_cons_of_mem _ (ih hb)
  exact h (.blk b, c) (List.mem_map.2 ⟨(b, c), this, rfl⟩)

theorem good_subheap (l : List Nat) : Good tmps heap (hpRd (subheap heap l)) := by
  induction l with
  | nil => intro x hx; simp [subheap, hpRd] at hx
  | cons b l ih =>
    simp only [subheap]
    split
    · rename_i c hc
      exact Good.cons hc ih
    · exact ih

theorem run_callFunc {f : FuncId} {fn : Func} (hf : P.funcs[f]? = some fn) (h : (fn.body.isSome && !(fn.name == "runtime.NumGoroutine")) = true) (args : Array Value) (w : World) : (callFunc f args).run P w = .ok (.enter f args) w := by
  simp only [Bool.and_eq_true] at h
  obtain ⟨h1, h2⟩ := h
  have h2 : (fn.name == "runtime.NumGoroutine") = false := by simpa using h2
  have h3 : fn.body.isNone = false := by cases hb : fn.body <;> simp_all
  unfold callFunc
  simp only [Sem.run_bind, run_program, Result.andThen_ok, hf, h2, h3, Bool.false_eq_true, if_false, Sem.run_pure]

theorem opCall_done {call : CallR β} (hcall : CallOk P call) {c : Call} (hop : o.op = .call c) (ho : ops[i]? = some o) (hw : Want N ops o rd) (hg : Good tmps heap rd) (hsub : ∀ p ∈ rdAll tmps o, p ∈ rd) (h : opCall P call N tmps heap o rd c lo hi K = some res) : Done P N ops i tmps heap lo hi K res := by
  unfold opCall at h
  split at h
  · rename_i f hc
    split at h
    · rename_i fid first cap args hf' ha
      split at h
      · rename_i fn hfn
        split at h
        · rename_i hb
          simp only at h
          split at h
          · rename_i hno
            obtain ⟨r, H', h1, hfacts⟩ := hcall _ _ _ _ _ _ _ h
            split at h1
            · rename_i hcov
              have hg' : Good tmps heap (hpRd (subheap heap (reach 1000 heap (namesL (first ++ args ++ cap)) [])) ++ rd) := (good_subheap _).append hg
              obtain ⟨rd', wr, h2, rfl, h3⟩ := fin_sound (P := P) (lo := lo) (hi := hi) ho h1 (fun w0 own σ u a w hf hr => hw w0 own σ u a w hf fun y hy => hr y (List.mem_append_right _ hy)) fun Q w0 own σ u a w hf hr hn K' hK => by
                have hr1 : ∀ p ∈ rd, u p.1 = some p.2 := fun p hp => hr p (List.mem_append_right _ hp)
                have hr2 : ∀ p ∈ hpRd _, u p.1 = some p.2 := fun p hp => hr p (List.mem_append_left _ hp)
                have hfo : f ∈ o.op.operands := by simp [hop, Op.operands, Call.operands, hc]
                have k1 := opd_rel hf (mem_rdAll hfo hsub hr1) hf'
                simp only [Rel] at k1
                obtain ⟨xs, ys, e1, k2, k3⟩ := k1
                have k4 := opdL_rels hf (xs := c.args.toList) (fun x hx => mem_rdAll (o := o) (by simp only [hop, Op.operands, Call.operands, hc]; simp at hx; simp [hx]) hsub hr1) ha
                have hvals : Rels σ ((first ++ args) ++ cap) ((xs ++ c.args.toList.map a.eval) ++ ys) := Rels.append (Rels.append k2 k4) k3
                have hH : HFits σ (subheap heap (reach 1000 heap (namesL (first ++ args ++ cap)) [])) w := by
                  intro b cc hbb
                  have := hpRd_mem hr2 hbb
                  cases cc with
                  | row e cs => exact hf.row b e cs this
                  | obj ob => exact hf.obj b ob this
                  | av x => trivial
                have hcalls := hfacts σ _ w hf.inj hf.bound hvals hH hn
                have hexec : (execOp a.eval o).run P w = .ok (.enter fid (List.toArray ((xs ++ c.args.toList.map a.eval) ++ ys))) w := by
                  have hargs : (List.toArray xs ++ c.args.map a.eval) ++ List.toArray ys = List.toArray ((xs ++ c.args.toList.map a.eval) ++ ys) := by
                    apply Array.toList_inj.1; simp
                  simp only [execOp, hop, resolve, hc, e1, Deferred.ofValue, Sem.run_bind, Sem.run_pure, Result.andThen_ok, invoke, run_callFunc hfn hb, hargs]
                unfold Oper.wp
                rw [hexec]
                simp only [Oper.upon]
                refine Calls.mono hcalls fun e w' he => ?_
                obtain ⟨σ', v, rfl, p1, p2, p3, p4, p5, p6, p7, p8, p9, p10, p11, p12⟩ := he
                exact hK σ' v w' p1 p2 (hf.call (fun b cc hbb => hpRd_mem hr2 hbb) hno hcov p1 p4 p5 p6 p7 p8 p9 p10 p11 p12) p3
              exact ⟨_, wr, h2, hg', h3⟩
            · cases h1
          · cases h
        · cases h
      · cases h
    · cases h
  · rename_i hc
    split at h
    · rename_i x t ts hx hat
      split at h
      · rename_i b off len cap ha
        split at h
        · rename_i e hu
          refine fin_done ho hw hg h fun w0 own σ u a w hf hr => ?_
          have hxm : x ∈ c.args := by
            have : x ∈ c.args.toList := by rw [hx]; simp
            simpa using this
          have h1 := opd_rel hf (mem_rdAll (x := x) (by simp only [hop, Op.operands, Call.operands, hc]; simp [hxm]) hsub hr) ha
          simp only [Rel] at h1
          obtain ⟨r, _, e1⟩ := h1
          refine ⟨.int .i64 len, ?_, by simp only [Rel]⟩
          have hargs : c.args = #[x] := by apply Array.toList_inj.1; rw [hx]
          have hat' : c.argTypes[0]? = some t := by rw [← Array.getElem?_toList, hat]; rfl
          simp [execOp, hop, resolve, hc, invoke, builtin, hargs, Builtin.len_, hat', run_underlying hu, e1, goInt]
        · cases h
      · exact opVal_done ho hw hg hsub h
    · cases h
  · exact opVal_done ho hw hg hsub h
  · cases h

end
end Go.Ab
