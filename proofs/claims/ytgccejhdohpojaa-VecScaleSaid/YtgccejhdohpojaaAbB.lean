/- A part of the proof of 'VecScale': lemmas, no statement of their own; no condition. -/
import Derived.Test.YtgccejhdohpojaaAbA
import Derived.ChangeKeysEq
import Derived.Laws.StructEq
namespace Go.Ab

/-! ### what an operation without memory comes to, by the model's own text -/
def evalSem {α : Type} (P : Program) : Sem α → Option α
  | .pure a => some a
  | .program k => evalSem P (k P)
  | .mark _ k => evalSem P k
  | _ => none

theorem evalSem_run {α : Type} {P : Program} {s : Sem α} {a : α} (h : evalSem P s = some a) (w : World) : s.run P w = .ok a w := by
  induction s with
  | pure x => simp [evalSem] at h; subst h; rfl
  | program k ih => exact ih P h
  | mark m k ih => exact ih h
  | _ => simp [evalSem] at h

/-! ### rows: a load and a store in the midst -/
theorem run_loadCells_row {P : Program} (w : World) (r off n : Nat) (t : TypeId) (fr : Nat × Nat) (vs xs : List Value) (hr : w.heap[r]? = some (.cells (List.toArray vs) t fr))
    (hx : (vs.drop off).take n = xs) (hn : xs.length = n) : (loadCells ⟨r, off, none⟩ n).run P w = .ok xs.toArray w := by
  subst hn
  refine run_loadCells_list (P := P) w ⟨r, off, none⟩ xs fun j v hv => ?_
  have hadd : (⟨r, off, none⟩ : Addr).add j = ⟨r, off + j, none⟩ := by unfold Addr.add; split <;> simp_all
  rw [hadd, cell_of_row w r (off + j) _ t fr hr]
  rw [← hx] at hv
  have : j < xs.length := by
    rcases Nat.lt_or_ge j xs.length with h | h
    · exact h
    · rw [List.getElem?_take, if_neg (by omega)] at hv; cases hv
  rw [List.getElem?_take, if_pos this, List.getElem?_drop] at hv
  simpa using hv

def isAggD : TypeDesc → Bool
  | .struct _ | .array _ _ => true
  | _ => false

theorem run_isAgg {P : Program} {t : TypeId} {d : TypeDesc} (h : P.underlying t = some d) (w : World) : (isAgg t).run P w = .ok (isAggD d) w := by
  unfold isAgg
  rw [Sem.run_bind, run_underlying h w]
  cases d <;> rfl

theorem run_sizeOf {P : Program} {t : TypeId} {i : TypeInfo} (h : P.info? t = some i) (w : World) : (sizeOf t).run P w = .ok i.size w := by
  simp [sizeOf, typeInfo, h]

theorem run_zeroValue {P : Program} {t : TypeId} {i : TypeInfo} {z : Value} (h : P.info? t = some i) (hz : i.zero = some z) (w : World) : (zeroValue t).run P w = .ok z w := by
  simp [zeroValue, typeInfo, h, hz]

theorem setRow_self (w : World) (g : Nat) (cur : Array Value) (t : TypeId) (fr : Nat × Nat) (hg : w.heap[g]? = some (.cells cur t fr)) : w.setRow g cur = w := by
  have hlt : g < w.heap.size := (Array.getElem?_eq_some_iff.1 hg).1
  have hv : w.heap[g] = .cells cur t fr := (Array.getElem?_eq_some_iff.1 hg).2
  unfold World.setRow
  cases w with
  | mk heap tape drawn os output =>
    congr 1
    apply Array.ext
    · simp
    · intro k h1 h2
      simp only [Array.getElem_modify]
      split
      · rename_i hk; subst hk; simp at hv; simp [hv]
      · rfl

def splice {α : Type} (cur : List α) (off : Nat) (new : List α) : List α := cur.take off ++ new ++ cur.drop (off + new.length)

theorem run_storeCells_row {P : Program} (r : Nat) (t : TypeId) : ∀ (vs : List Value) (off i : Nat) (cur : List Value) (w : World), w.heap[r]? = some (.cells (List.toArray cur) t (0, 0)) → off + i + vs.length ≤ cur.length → (∀ v ∈ vs, v.oneCell' = true) →
    (storeCells ⟨r, off, none⟩ vs i).run P w = .ok () (w.setRow r (List.toArray (splice cur (off + i) vs)))
  | [], off, i, cur, w, hg, hl, _ => by
    simp only [storeCells, splice, List.append_nil, List.length_nil, Nat.add_zero, List.take_append_drop]
    rw [setRow_self w r _ t (0, 0) hg]
    rfl
  | v :: rest, off, i, cur, w, hg, hl, h1 => by
    have hi : off + i < cur.length := by simp at hl; omega
    have hadd : (⟨r, off, none⟩ : Addr).add i = ⟨r, off + i, none⟩ := by unfold Addr.add; split <;> simp_all
    have hcell : w.cell? ⟨r, off + i, none⟩ = some cur[off + i] := by simp [World.cell?, hg, hi]
    have hfro : w.frozen? ⟨r, off + i, none⟩ = false := by simp [World.frozen?, hg]
    have hst : (store ((⟨r, off, none⟩ : Addr).add i) v).run P w = .ok () (w.setRow r (List.toArray (cur.set (off + i) v))) := by
      rw [hadd, run_store P w _ v _ (h1 v (by simp)), hcell]
      simp [hfro, setCell_eq_setRow w r (off + i) (List.toArray cur) t (0, 0) v hg]
    have ih := run_storeCells_row (P := P) r t rest off (i + 1) (cur.set (off + i) v) (w.setRow r (List.toArray (cur.set (off + i) v))) (setRow_heap w r _ _ t _ hg) (by simp at hl ⊢; omega) (fun x hx => h1 x (by simp [hx]))
    simp only [storeCells, Sem.run_bind, hst, Result.andThen_ok, ih, setRow_setRow]
    congr 3
    unfold splice
    apply List.ext_getElem?
    intro k
    simp only [List.getElem?_append, List.length_append, List.length_take, List.length_cons, List.length_set, List.getElem?_take, List.getElem?_set, List.getElem?_drop]
    have e1 : min (off + (i + 1)) cur.length = off + i + 1 := by simp at hl; omega
    have e2 : min (off + i) cur.length = off + i := by omega
    rw [e1, e2]
    by_cases hk : k < off + i
    · rw [if_pos (show k < off + i + 1 + rest.length by omega), if_pos (show k < off + i + 1 by omega), if_pos (show k < off + (i + 1) by omega), if_neg (show ¬ off + i = k by omega), if_pos (show k < off + i + (rest.length + 1) by omega), if_pos hk, if_pos hk]
    · by_cases hk2 : k = off + i
      · subst hk2
        rw [if_pos (show off + i < off + i + 1 + rest.length by omega), if_pos (show off + i < off + i + 1 by omega), if_pos (show off + i < off + (i + 1) by omega), if_pos rfl, if_pos hi, if_pos (show off + i < off + i + (rest.length + 1) by omega), if_neg (by omega)]
        simp
      · by_cases hk3 : k < off + i + 1 + rest.length
        · rw [if_pos hk3, if_neg (by omega), if_pos (by omega), if_neg (by omega)]
          have : k - (off + i) = (k - (off + i + 1)) + 1 := by omega
          rw [this, List.getElem?_cons_succ]
        · rw [if_neg hk3, if_neg (by omega), if_neg (by omega)]
          congr 1
          omega

/-! ### abstract values' cells -/
def cellsOf : AV → Option (List AV)
  | .val v => some (v.cells.toList.map .val)
  | .agg cs => some cs
  | .any => none
  | a => some [a]
def oneA : AV → Bool
  | .val v => v.oneCell'
  | .agg _ | .tuple _ | .any => false
  | _ => true
def allVals : List AV → Option (List Value)
  | [] => some []
  | .val v :: r => match allVals r with | some l => some (v :: l) | none => none
  | _ :: _ => none
def mkAgg (cs : List AV) : AV := match allVals cs with | some l => .val (.agg (List.toArray l)) | none => .agg cs

theorem allVals_rels {σ : Nat → Option Nat} : ∀ {cs : List AV} {l vs : List Value}, allVals cs = some l → Rels σ cs vs → vs = l
  | [], l, vs, h, k => by simp [allVals] at h; simp only [Rels] at k; rw [k, ← h]
  | .val v :: r, l, vs, h, k => by
    simp only [allVals] at h
    simp only [Rels, Rel] at k
    obtain ⟨x, xs, rfl, rfl, h3⟩ := k
    split at h
    · rename_i l' e; simp at h; subst h; rw [allVals_rels e h3]
    · cases h
  | .ptr _ _ :: _, l, vs, h, _ => by simp [allVals] at h
  | .slice _ _ _ _ :: _, l, vs, h, _ => by simp [allVals] at h
  | .agg _ :: _, l, vs, h, _ => by simp [allVals] at h
  | .tuple _ :: _, l, vs, h, _ => by simp [allVals] at h
  | .func _ _ _ :: _, l, vs, h, _ => by simp [allVals] at h
  | .map _ :: _, l, vs, h, _ => by simp [allVals] at h
  | .any :: _, l, vs, h, _ => by simp [allVals] at h

theorem mkAgg_rel {σ : Nat → Option Nat} {cs : List AV} {vs : List Value} (h : Rels σ cs vs) : Rel σ (mkAgg cs) (.agg (List.toArray vs)) := by
  unfold mkAgg
  split
  · rename_i l e; simp only [Rel]; rw [allVals_rels e h]
  · simp only [Rel]; exact ⟨vs, rfl, h⟩

theorem cellsOf_rels {σ : Nat → Option Nat} {a : AV} {v : Value} (h : Rel σ a v) {cs : List AV} (hc : cellsOf a = some cs) : Rels σ cs v.cells.toList := by
  cases a <;> simp only [Rel] at h <;> simp only [cellsOf, Option.some.injEq, reduceCtorEq] at hc
  case val x => subst h; subst hc; exact Rels.vals _
  case agg cs => obtain ⟨vs, rfl, h⟩ := h; subst hc; simpa [Value.cells] using h
  case ptr b off => obtain ⟨r, h1, rfl⟩ := h; subst hc; simp [Value.cells, Rels, Rel, h1]
  case slice b off len cap => obtain ⟨r, h1, rfl⟩ := h; subst hc; simp [Value.cells, Rels, Rel, h1]
  case tuple cs => obtain ⟨vs, rfl, h⟩ := h; subst hc; simp [Value.cells, Rels, Rel, h]
  case func f a b => obtain ⟨xs, ys, rfl, h⟩ := h; subst hc; simp only [Rels, Rel]; exact ⟨_, [], rfl, ⟨xs, ys, rfl, h⟩, rfl⟩
  case map b => obtain ⟨r, h1, rfl⟩ := h; subst hc; simp [Value.cells, Rels, Rel, h1]

theorem oneA_rel {σ : Nat → Option Nat} {a : AV} {v : Value} (h : Rel σ a v) (ho : oneA a = true) : v.oneCell' = true := by
  cases a <;> simp only [Rel] at h <;> simp only [oneA] at ho
  case val x => subst h; exact ho
  case ptr b off => obtain ⟨r, h1, rfl⟩ := h; rfl
  case slice b off len cap => obtain ⟨r, h1, rfl⟩ := h; rfl
  case func f a b => obtain ⟨xs, ys, rfl, h⟩ := h; rfl
  case map b => obtain ⟨r, h1, rfl⟩ := h; rfl
  all_goals cases ho

theorem oneA_rels {σ : Nat → Option Nat} : ∀ {as : List AV} {vs : List Value}, Rels σ as vs → as.all oneA = true → ∀ v ∈ vs, v.oneCell' = true
  | [], vs, k, _ => by simp only [Rels] at k; subst k; simp
  | a :: as, vs, k, ho => by
    simp only [Rels] at k
    obtain ⟨x, xs, rfl, h2, h3⟩ := k
    simp only [List.all_cons, Bool.and_eq_true] at ho
    intro v hv
    rcases List.mem_cons.1 hv with rfl | hv
    · exact oneA_rel h2 ho.1
    · exact oneA_rels h3 ho.2 v hv

def loadA (P : Program) (t : TypeId) (cells : List AV) (off : Nat) : Option AV :=
  match P.underlying t, P.info? t with
  | some d, some i => match isAggD d with
    | true => let cs := (cells.drop off).take i.size; if cs.length = i.size then some (mkAgg cs) else none
    | false => cells[off]?
  | _, _ => none

theorem loadA_run {P : Program} {σ : Nat → Option Nat} {t : TypeId} {cells : List AV} {off : Nat} {a : AV} (h : loadA P t cells off = some a) {w : World} {r : Nat} {vs : List Value} {e : TypeId} {fr : Nat × Nat}
    (hr : w.heap[r]? = some (.cells (List.toArray vs) e fr)) (hv : Rels σ cells vs) : ∃ v, (loadVar t ⟨r, off, none⟩).run P w = .ok v w ∧ Rel σ a v := by
  unfold loadA at h
  split at h
  · rename_i d i hd hi
    split at h
    · rename_i hagg
      simp only at h
      split at h
      · rename_i hlen
        cases h
        have hv' := Rels.take i.size (Rels.drop off hv)
        refine ⟨.agg (List.toArray ((vs.drop off).take i.size)), ?_, mkAgg_rel hv'⟩
        unfold loadVar
        rw [Sem.run_bind, run_isAgg hd w, hagg]
        simp only [Result.andThen_ok, if_true, Sem.run_bind, run_sizeOf hi w]
        rw [run_loadCells_row w r off i.size e fr vs _ hr rfl (by rw [← Rels.length hv']; exact hlen)]
        rfl
      · cases h
    · rename_i hagg
      obtain ⟨v, h1, h2⟩ := Rels.get hv h
      refine ⟨v, ?_, h2⟩
      unfold loadVar
      rw [Sem.run_bind, run_isAgg hd w, hagg]
      simp only [Result.andThen_ok, Bool.false_eq_true, if_false, run_load]
      rw [cell_of_row w r off _ e fr hr]
      simp [h1]
  · cases h

def storeA (P : Program) (t : TypeId) (cells : List AV) (off : Nat) (a : AV) : Option (List AV) :=
  match P.info? t with
  | some i => match cellsOf a with
    | some cs => if cs.length = i.size ∧ off + cs.length ≤ cells.length ∧ cs.all oneA = true then some (splice cells off cs) else none
    | none => none
  | none => none

theorem Rels.splice {σ : Nat → Option Nat} {cells new : List AV} {vs xs : List Value} {off : Nat} (h : Rels σ cells vs) (k : Rels σ new xs) : Rels σ (Ab.splice cells off new) (Ab.splice vs off xs) := by
  unfold Ab.splice
  rw [Rels.length k]
  exact Rels.append (Rels.append (Rels.take _ h) k) (Rels.drop _ h)

theorem storeA_run {P : Program} {σ : Nat → Option Nat} {t : TypeId} {cells cells' : List AV} {off : Nat} {a : AV} {v : Value} (h : storeA P t cells off a = some cells') (ha : Rel σ a v) {w : World} {r : Nat} {vs : List Value} {e : TypeId}
    (hr : w.heap[r]? = some (.cells (List.toArray vs) e (0, 0))) (hv : Rels σ cells vs) :
    ∃ vs', (storeVar t ⟨r, off, none⟩ v).run P w = .ok () (w.setRow r (List.toArray vs')) ∧ Rels σ cells' vs' := by
  unfold storeA at h
  split at h
  · rename_i i hi
    split at h
    · rename_i cs hcc
      split at h
      · rename_i hc
        obtain ⟨h1, h2, h3⟩ := hc
        cases h
        have hcs := cellsOf_rels ha hcc
        refine ⟨Ab.splice vs off v.cells.toList, ?_, Rels.splice hv hcs⟩
        have hl := Rels.length hcs
        unfold storeVar
        rw [Sem.run_bind, run_sizeOf hi w]
        simp only [Result.andThen_ok]
        have e1 : v.cells.size = i.size := by rw [← h1, hl]; simp
        rw [if_neg (by simp [e1])]
        have := run_storeCells_row (P := P) r e v.cells.toList off 0 vs w hr (by rw [← hl, ← Rels.length hv]; simpa using h2) (oneA_rels hcs h3)
        simpa using this
      · cases h
    · cases h
  · cases h

/-! ### equality of structs and arrays of plain data -/
def eqL (P : Program) (cmp : TypeId → Value → Value → Option Bool) (xs ys : Array Value) : List (TypeId × Nat) → Option Bool
  | [] => some true
  | (t, o) :: r => match evalSem P (part t xs o), evalSem P (part t ys o) with
    | some a, some b => match cmp t a b, eqL P cmp xs ys r with
      | some p, some q => some (p && q)
      | _, _ => none
    | _, _ => none
def eqT (P : Program) : Nat → TypeId → Value → Value → Option Bool
  | 0, _, _, _ => none
  | n + 1, t, x, y => match P.underlying t, x, y with
    | some .bool, .bool a, .bool b => some (a == b)
    | some (.int _), .int k a, .int k' b => match decide (k = k') with | true => some (a == b) | false => none
    | some .string, .string a, .string b => some (a == b)
    | some (.struct fs), .agg xs, .agg ys => match P.stoodInHeld t, fs.toList.all fun f => f.name != "_" with
      | false, true => eqL P (eqT P n) xs ys (fs.toList.map fun f => (f.type, f.offset))
      | _, _ => none
    | some (.array m e), .agg xs, .agg ys => match P.info? e with
      | some _ => eqL P (eqT P n) xs ys ((List.range m).map fun i => (e, i * P.cellsOf e))
      | none => none
    | _, _, _ => none

section
variable {P : Program}
theorem run_eqL_fields {d : Nat} {cmp : TypeId → Value → Value → Option Bool} (hc : ∀ t x y r w, cmp t x y = some r → (Op.equalIn d t x y).run P w = .ok r w) (xs ys : Array Value) (w : World) :
    ∀ (fs : List Field) (r : Bool), (fs.all fun f => f.name != "_") = true → eqL P cmp xs ys (fs.map fun f => (f.type, f.offset)) = some r → (Op.eqFields d xs ys fs).run P w = .ok r w
  | [], r, _, h => by simp only [List.map_nil, eqL, Option.some.injEq] at h; subst h; simp [Op.eqFields]
  | f :: fs, r, hn, h => by
    simp only [List.all_cons, Bool.and_eq_true, bne_iff_ne, ne_eq] at hn
    simp only [List.map_cons, eqL] at h
    split at h
    · rename_i a b ha hb
      split at h
      · rename_i p q hp hq
        cases h
        have ih := run_eqL_fields hc xs ys w fs q hn.2 hq
        simp only [Op.eqFields, hn.1, ne_eq, not_false_eq_true, if_true, Sem.run_bind, evalSem_run ha, evalSem_run hb, hc _ _ _ _ _ hp, Result.andThen_ok]
        cases p
        · simp
        · simpa using ih
      · cases h
    · cases h
theorem run_eqL_items {d c : Nat} {e : TypeId} {cmp : TypeId → Value → Value → Option Bool} (hc : ∀ t x y r w, cmp t x y = some r → (Op.equalIn d t x y).run P w = .ok r w) (xs ys : Array Value) (w : World) :
    ∀ (is : List Nat) (r : Bool), eqL P cmp xs ys (is.map fun i => (e, i * c)) = some r → (Op.eqItems d e c xs ys is).run P w = .ok r w
  | [], r, h => by simp only [List.map_nil, eqL, Option.some.injEq] at h; subst h; simp [Op.eqItems]
  | i :: is, r, h => by
    simp only [List.map_cons, eqL] at h
    split at h
    · rename_i a b ha hb
      split at h
      · rename_i p q hp hq
        cases h
        have ih := run_eqL_items hc xs ys w is q hq
        simp only [Op.eqItems, Sem.run_bind, evalSem_run ha, evalSem_run hb, hc _ _ _ _ _ hp, Result.andThen_ok]
        cases p
        · simp
        · simpa using ih
      · cases h
    · cases h
theorem run_eqT : ∀ (n d : Nat) (t : TypeId) (x y : Value) (r : Bool) (w : World), n ≤ d → eqT P n t x y = some r → (Op.equalIn d t x y).run P w = .ok r w
  | 0, _, _, _, _, _, _, _, h => by simp [eqT] at h
  | n + 1, 0, _, _, _, _, _, hd, _ => by omega
  | n + 1, d + 1, t, x, y, r, w, hd, h => by
    have IH : ∀ t x y r w, eqT P n t x y = some r → (Op.equalIn d t x y).run P w = .ok r w := fun t x y r w h => run_eqT n d t x y r w (by omega) h
    unfold eqT at h
    split at h
    · rename_i hu
      cases h
      exact run_equalIn_bool' w d t _ _ hu
    · rename_i hu
      split at h
      · rename_i hk
        have hk := of_decide_eq_true hk
        subst hk
        cases h
        exact run_equalIn_int w d t _ _ _ _ hu
      · cases h
    · rename_i hu
      cases h
      rw [beq_toListBytes]
      exact run_equalIn_string w d t _ _ hu
    · rename_i fs xs ys hu
      split at h
      · rename_i hs hn
        have hfs : P.fieldsOf t = fs := by simp [Program.fieldsOf, hu]
        rw [run_equalIn_struct w d t xs ys (by rw [hfs]; exact hu) hs, hfs]
        exact run_eqL_fields IH xs ys w _ r hn h
      · cases h
    · rename_i m e xs ys hu
      split at h
      · rename_i i hi
        rw [run_equalIn_array w d xs ys hu hi]
        exact run_eqL_items IH xs ys w _ r h
      · cases h
    · cases h
end

end Go.Ab
