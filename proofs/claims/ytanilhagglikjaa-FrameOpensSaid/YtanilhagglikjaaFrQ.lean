/- A part of the proof of 'FrameOpens': lemmas, no statement of their own; no condition. -/
import Derived.Test.YtanilhagglikjaaFrO
import Derived.Test.YtanilhagglikjaaFrP
/- frame.Scan: a frame more in the list. -/
namespace Go.Ab
open Go Go.Proofs
theorem Stand.get {F : Nat → Prop} {w0 : World} {N : Nat} {s : St} {a : Act} {w : World} (h : Stand F w0 N s a w) {t : Nat} {v : Value} (ht : s.tmps[t]? = some (.val v)) : a.tmps[t]? = some v := by
  obtain ⟨σ, h1, _⟩ := h
  obtain ⟨x, h1, h2⟩ := h1.tmp ht
  simp only [Rel] at h2
  rw [h1, h2]
theorem Stand.act {F : Nat → Prop} {w0 : World} {N : Nat} {s : St} {a : Act} {w : World} (h : Stand F w0 N s a w) : a.defers = [] ∧ a.tmps.size = N := by
  obtain ⟨σ, ⟨⟨u, hf, _⟩, _⟩, _⟩ := h
  exact ⟨hf.defers, hf.size⟩
theorem Stand.own {F : Nat → Prop} {w0 : World} {N : Nat} {s : St} {a : Act} {w : World} (h : Stand F w0 N s a w) {t b e : Nat} {vs : List Value} (ht : s.tmps[t]? = some (.ptr b 0)) (hb : hget s.heap b = some (.row e (vs.map .val))) :
    ∃ r, a.tmps[t]? = some (.pointer (some ⟨r, 0, none⟩)) ∧ w.heap[r]? = some (.cells (List.toArray vs) e (0, 0)) := by
  obtain ⟨σ, h1, _⟩ := h
  obtain ⟨x, h2, h3⟩ := h1.tmp ht
  simp only [Rel] at h3
  obtain ⟨r, h4, rfl⟩ := h3
  obtain ⟨⟨u, hf, hs⟩, _⟩ := h1
  obtain ⟨r', vs', h5, h6, h7⟩ := hf.row b e _ (hs _ _ (hget_own rfl hb))
  rw [h4] at h5
  cases h5
  rw [rels_vals _ _ h7] at h6
  exact ⟨r, h2, h6⟩
theorem Stand.puts {F : Nat → Prop} {w0 : World} {N : Nat} {w : World} : ∀ (sps : List Sp) {s : St} {a : Act}, Stand F w0 N s a w → (∀ x ∈ sps, x.d < N) → s.tmps.length = N → Stand F w0 N { s with tmps := sps.foldl (fun l p => l.set p.d (.val p.val)) s.tmps } (sps.foldl (fun a s => a.put (some s.d) s.val) a) w
  | [], _, _, h, _, _ => h
  | p :: r, s, a, h, hd, hl => by
    have h1 := h.put (hd p (List.mem_cons_self ..)) hl p.val
    have := Stand.puts r h1 (fun x hx => hd x (List.mem_cons_of_mem _ hx)) (by simp [hl])
    exact this
def frCells (x : Fr) : List Value := [.int .i64 x.kind, .string x.data]
def cellsF (l : List Fr) : List Value := l.flatMap frCells
/-- The operations of the round that found a frame. -/
def sps14 (s s' : ByteArray) (l v' sl p : Value) (x : Fr) (m : Int) : List Sp :=
  [⟨0, 58, true, [(5, l)], l, none⟩, ⟨1, 59, true, [(9, p)], .agg (List.toArray (frCells x)), some (0, 0)⟩, ⟨2, 60, true, [(59, .agg (List.toArray (frCells x)))], sl, some (0, 1)⟩, ⟨3, 61, true, [(58, l), (60, sl)], v', some (1, 2)⟩,
   ⟨4, 62, true, [(0, .string s)], .string s, none⟩, ⟨5, 63, true, [(8, .int .i64 m)], .int .i64 m, none⟩, ⟨6, 64, true, [(62, .string s), (63, .int .i64 m)], .string s', none⟩, ⟨7, 5, true, [(61, v')], v', none⟩, ⟨8, 0, true, [(64, .string s')], .string s', none⟩]
theorem any14 (s s' : ByteArray) (l v' sl p : Value) (x : Fr) (m : Int) : anyOk sO14.toList ((sps14 s s' l v' sl p x m).map fun s => s.it.foot) = true := by kernel_rfl
theorem mixed : Try.prog.follows .mixedOrders = true := by kernel_rfl
theorem len14 (s s' : ByteArray) (l v' sl p : Value) (x : Fr) (m : Int) : (sps14 s s' l v' sl p x m).length = sO14.size := by kernel_rfl
theorem e14_0 : sigOf sO14 0 = some (.move (.tmp 5), some 58, true) := by kernel_rfl
theorem e14_1 : sigOf sO14 1 = some (.load 26 (.tmp 9), some 59, true) := by kernel_rfl
theorem e14_2 : sigOf sO14 2 = some (.buildSlice 33 1 #[(0, .tmp 59)], some 60, true) := by kernel_rfl
theorem e14_3 : sigOf sO14 3 = some (.call { callee := .builtin .append, args := #[.tmp 58, .tmp 60], argTypes := #[33, 33] }, some 61, true) := by kernel_rfl
theorem e14_4 : sigOf sO14 4 = some (.move (.tmp 0), some 62, true) := by kernel_rfl
theorem e14_5 : sigOf sO14 5 = some (.move (.tmp 8), some 63, true) := by kernel_rfl
theorem e14_6 : sigOf sO14 6 = some (.slice 9 (.tmp 62) (some (.tmp 63)) none none, some 64, true) := by kernel_rfl
theorem e14_7 : sigOf sO14 7 = some (.assign (.tmp 61), some 5, true) := by kernel_rfl
theorem e14_8 : sigOf sO14 8 = some (.assign (.tmp 64), some 0, true) := by kernel_rfl
theorem v33 : Try.prog.underlying 33 = some (.slice 26) := by kernel_rfl
theorem i26b : (Try.prog.info? 26).map (fun i => (i.size, i.bytes)) = some (2, 24) := by kernel_rfl
theorem i26z : ((Try.prog.info? 26).bind (·.zero)) = some (.agg #[.int .i64 0, .string ⟨#[]⟩]) := by kernel_rfl
theorem cells26 (x : Fr) : sliceCells Try.prog 33 1 [(0, .agg (List.toArray (frCells x)))] = some (26, frCells x) := by kernel_rfl
theorem info26 : ∃ ti, Try.prog.info? 26 = some ti ∧ ti.size = 2 ∧ ti.bytes = 24 ∧ ti.zero = some (.agg #[.int .i64 0, .string ⟨#[]⟩]) := by
  cases hi : Try.prog.info? 26 with
  | none => have := i26b; rw [hi] at this; cases this
  | some ti =>
    have h1 := i26b
    have h2 := i26z
    rw [hi] at h1 h2
    simp only [Option.map_some, Option.some.injEq, Prod.mk.injEq, Option.bind_some] at h1 h2
    exact ⟨ti, rfl, h1.1, h1.2, h2⟩
theorem und26 : (Try.prog.underlying 26).map isAggD = some true := by kernel_rfl
theorem get_eval {a : Act} {t : Nat} {v : Value} (h : a.tmps[t]? = some v) : a.eval (.tmp t) = v := by simp [Act.eval, h]
/-- An operation that only reads temporaries, or one at a stage of the world. -/
theorem spOk_of {P : Program} {ops : Array Oper} {W : Nat → World} {N : Nat} {s : Sp} {op : Op} (hs : sigOf ops s.i = some (op, some s.d, true)) (hd : s.d < N) (hon : s.on = true)
    (h : ∀ o : Oper, o.op = op → match s.tok with
      | none => ∀ (a : Act) (w : World), Reads s a → (execOp a.eval o).run P w = .ok (.value s.val) w
      | some (n, m) => ∀ a : Act, Reads s a → (execOp a.eval o).run P (W n) = .ok (.value s.val) (W m)) : SpOk P ops W N s := by
  obtain ⟨o, ho, hop, hdst, hg⟩ := sigOf_some hs
  exact ⟨hd, o, ho, hdst, fun a _ => by rw [hon]; simp [Region.wanted, hg], (fun h' => by rw [hon] at h'; cases h'), fun _ => h o hop⟩
theorem run_rest {P : Program} {t : TypeId} {s : ByteArray} {m : Int} (hu : P.underlying t = some .string) (h0 : 0 ≤ m) (h1 : m ≤ s.size) (w : World) : (Instr.sliceAt t (.string s) (some (.int .i64 m)) none none).run P w = .ok (.string (s.extract m.toNat s.size)) w := by
  rw [run_sliceAt_string w t _ _ _ _ hu, run_slice_string_l w t s hu .i64 m h0 h1]
theorem run_loadRow {P : Program} {w : World} {t e : TypeId} {d : TypeDesc} {i : TypeInfo} {r : Nat} {cs : List Value} (hd : P.underlying t = some d) (hagg : isAggD d = true) (hi : P.info? t = some i) (hr : w.heap[r]? = some (.cells (List.toArray cs) e (0, 0))) (hl : cs.length = i.size) :
    (loadVar t ⟨r, 0, none⟩).run P w = .ok (.agg (List.toArray cs)) w := by
  have hc := run_loadCells_row (P := P) w r 0 i.size e (0, 0) cs cs hr (by rw [List.drop_zero, ← hl, List.take_length]) hl
  unfold loadVar
  rw [Sem.run_bind, run_isAgg hd w, hagg]
  simp only [Result.andThen_ok, if_true, Sem.run_bind, run_sizeOf hi w, hc, Sem.run_pure]
theorem spOk14 {W : Nat → World} {s : ByteArray} {l v' : Value} {x : Fr} {m : Int} {r : Nat} (h0 : 0 ≤ m) (hm : m ≤ s.size) (hrow : (W 0).heap[r]? = some (.cells (List.toArray (frCells x)) 26 (0, 0)))
    (h1 : W 1 = (W 0).alloc (.cells (List.toArray (frCells x)) 26)) (h2 : ∀ ty, (Builtin.append_ #[33, 33] ty #[l, .slice (some ⟨(W 0).heap.size, 0, none⟩) 1 1]).run Try.prog (W 1) = .ok v' (W 2)) :
    ∀ q ∈ sps14 s (s.extract m.toNat s.size) l v' (.slice (some ⟨(W 0).heap.size, 0, none⟩) 1 1) (.pointer (some ⟨r, 0, none⟩)) x m, SpOk Try.prog sO14 W 69 q := by
  obtain ⟨ti, hti, ts, tb, tz⟩ := info26
  obtain ⟨td, htd, hag⟩ : ∃ td, Try.prog.underlying 26 = some td ∧ isAggD td = true := by
    have := und26
    cases h : Try.prog.underlying 26 with
    | none => rw [h] at this; cases this
    | some td => rw [h] at this; exact ⟨td, rfl, by simpa using this⟩
  intro q hq
  simp only [sps14, List.mem_cons, List.not_mem_nil, or_false] at hq
  rcases hq with rfl | rfl | rfl | rfl | rfl | rfl | rfl | rfl | rfl
  · refine spOk_of e14_0 (by dsimp only; omega) rfl fun o ho a w hr => ?_
    have := get_eval (hr (5, l) (by simp))
    simp only [execOp, ho, this, Sem.run_pure]
  · refine spOk_of e14_1 (by dsimp only; omega) rfl fun o ho a hr => ?_
    have := get_eval (hr (9, .pointer (some ⟨r, 0, none⟩)) (by simp))
    simp only [execOp, ho, Instr.loadAt, this, Instr.sureAddr, Sem.run_bind, Sem.run_pure, Result.andThen_ok, run_loadRow htd hag hti hrow (by rw [ts]; rfl)]
  · refine spOk_of e14_2 (by dsimp only; omega) rfl fun o ho a hr => ?_
    have := get_eval (hr (59, .agg (List.toArray (frCells x))) (by simp))
    have e1 : (#[(0, Operand.tmp 59)].map fun (p : Nat × Operand) => (p.1, a.eval p.2)) = List.toArray [(0, Value.agg (List.toArray (frCells x)))] := by simp [this]
    have e2 := sliceCells_run (P := Try.prog) (cells26 x) (W 0)
    rw [← e1] at e2
    simp only [execOp, ho, Sem.run_bind, e2, h1]
    rfl
  · refine spOk_of e14_3 (by dsimp only; omega) rfl fun o ho a hr => ?_
    have hx := get_eval (hr (58, l) (by simp))
    have hy := get_eval (hr (60, .slice (some ⟨(W 0).heap.size, 0, none⟩) 1 1) (by simp))
    simp only [execOp, ho, resolve, invoke, Go.builtin, Sem.run_bind, Sem.run_pure, Result.andThen_ok, hx, hy, List.map_toArray, List.map_cons, List.map_nil, h2]
  · refine spOk_of e14_4 (by dsimp only; omega) rfl fun o ho a w hr => ?_
    have := get_eval (hr (0, .string s) (by simp))
    simp only [execOp, ho, this, Sem.run_pure]
  · refine spOk_of e14_5 (by dsimp only; omega) rfl fun o ho a w hr => ?_
    have := get_eval (hr (8, .int .i64 m) (by simp))
    simp only [execOp, ho, this, Sem.run_pure]
  · refine spOk_of e14_6 (by dsimp only; omega) rfl fun o ho a w hr => ?_
    have hx := get_eval (hr (62, .string s) (by simp))
    have hy := get_eval (hr (63, .int .i64 m) (by simp))
    simp only [execOp, ho, hx, hy, Option.map_some, Option.map_none, Sem.run_bind, run_rest v9 h0 hm w, Result.andThen_ok, Sem.run_pure]
  · refine spOk_of e14_7 (by dsimp only; omega) rfl fun o ho a w hr => ?_
    have := get_eval (hr (61, v') (by simp))
    simp only [execOp, ho, this, Sem.run_pure]
  · refine spOk_of e14_8 (by dsimp only; omega) rfl fun o ho a w hr => ?_
    have := get_eval (hr (64, .string (s.extract m.toNat s.size)) (by simp))
    simp only [execOp, ho, this, Sem.run_pure]
theorem chOk14 {f : Nat → Option Value} {s s' : ByteArray} {l v' sl p : Value} {x : Fr} {m : Int} (h5 : f 5 = some l) (h9 : f 9 = some p) (h0 : f 0 = some (.string s)) (h8 : f 8 = some (.int .i64 m)) : ChOk (sps14 s s' l v' sl p x m) f 0 2 := by
  unfold sps14
  simp [ChOk, h5, h9, h0, h8]
end Go.Ab
