/- A part of the proof of 'VecScale': lemmas, no statement of their own; no condition. -/
import Derived.Test.YtgccejhdohpojaaAbK
namespace Go.Ab
variable {β : Type}

/-! ### a function -/
def resA (P : Program) (s : St) : List ResultVar → Option (List AV)
  | [] => some []
  | .tmp t :: r => match s.tmps[t]?, resA P s r with
    | some a, some l => some (a :: l)
    | _, _ => none
  | .cell t ty :: r => match s.tmps[t]? with
    | some (.ptr b off) => match hget s.heap b with
      | some (.row _ cs) => match loadA P ty cs off, resA P s r with
        | some a, some l => some (a :: l)
        | _, _ => none
      | _ => none
    | _ => none
def pack : List AV → AV
  | [a] => a
  | l => match allVals l with | some vs => .val (.tuple (List.toArray vs)) | none => .tuple l
theorem pack_rel {σ : Nat → Option Nat} {as : List AV} {vs : List Value} (h : Rels σ as vs) (hl : as.length ≠ 1) : Rel σ (pack as) (.tuple (List.toArray vs)) := by
  have key : Rel σ (match allVals as with | some vs => AV.val (.tuple (List.toArray vs)) | none => .tuple as) (.tuple (List.toArray vs)) := by
    split
    · rename_i l e; simp only [Rel]; rw [allVals_rels e h]
    · simp only [Rel]; exact ⟨vs, rfl, h⟩
  match as, hl with
  | [], _ => exact key
  | [_], hl => exact absurd rfl hl
  | _ :: _ :: _, _ => exact key

def resOne (tmps : Array Value) : ResultVar → Sem Value
  | .tmp t => pure (tmps.getD t undef)
  | .cell x t => do loadVar t (← asAddr (tmps.getD x undef))

theorem resA_run {P : Program} {N : Nat} {w0 : World} {own : Nat → Prop} {σ : Nat → Option Nat} {u : U} {a : Act} {w : World} (hf : Fits N w0 own σ u a w) {s : St} (hs : Sub s.u u) :
    ∀ (l : List ResultVar) (as : List AV), resA P s l = some as → ∃ vs : List Value, (l.mapM (resOne a.tmps)).run P w = .ok vs w ∧ Rels σ as vs
  | [], as, h => by
    simp [resA] at h; subst h
    exact ⟨[], by simp, by simp [Rels]⟩
  | .tmp t :: r, as, h => by
    simp only [resA] at h
    split at h
    · rename_i x l hx hl
      cases h
      obtain ⟨vs, h1, h2⟩ := resA_run hf hs r l hl
      obtain ⟨v, hv, hrel⟩ := hf.tmp t x (hs _ _ (by simp [St.u, stU, hx]))
      refine ⟨v :: vs, ?_, by simp only [Rels]; exact ⟨v, vs, rfl, hrel, h2⟩⟩
      simp only [List.mapM_cons, resOne, Sem.run_bind, Sem.run_pure, Result.andThen_ok, h1]
      simp [hv]
    · cases h
  | .cell t ty :: r, as, h => by
    simp only [resA] at h
    split at h
    · rename_i b off hx
      split at h
      · rename_i e cs hb
        split at h
        · rename_i x l hld hl
          cases h
          obtain ⟨vs, h1, h2⟩ := resA_run hf hs r l hl
          obtain ⟨v, hv, hrel⟩ := hf.tmp t _ (hs _ _ (by simp [St.u, stU, hx]; rfl))
          simp only [Rel] at hrel
          obtain ⟨rr, hr1, rfl⟩ := hrel
          obtain ⟨r2, vs2, hr2, hheap, hrels⟩ := hf.row b e cs (hs _ _ (by simp [St.u, stU, hb]))
          rw [hr1] at hr2
          cases hr2
          obtain ⟨y, hy, hrel⟩ := loadA_run hld hheap hrels
          refine ⟨y :: vs, ?_, by simp only [Rels]; exact ⟨y, vs, rfl, hrel, h2⟩⟩
          have e1 : a.tmps.getD t undef = .pointer (some ⟨rr, off, none⟩) := by simp [hv]
          have hh : (do loadVar ty (← asAddr (a.tmps.getD t undef)) : Sem Value).run P w = .ok y w := by
            rw [Sem.run_bind, e1]
            simp only [asAddr, Sem.run_pure, Result.andThen_ok, hy]
          have hh : (resOne a.tmps (.cell t ty)).run P w = .ok y w := hh
          rw [List.mapM_cons, Sem.run_bind, hh]
          simp only [Result.andThen_ok]
          rw [Sem.run_bind, h1]
          rfl
        · cases h
      · cases h
    · cases h

theorem run_results {P : Program} {fn : Func} {N : Nat} {w0 : World} {own : Nat → Prop} {σ : Nat → Option Nat} {u : U} {a : Act} {w : World} (hf : Fits N w0 own σ u a w) {s : St} (hs : Sub s.u u) {as : List AV}
    (h : resA P s fn.results.toList = some as) : ∃ v, (results fn a.tmps).run P w = .ok v w ∧ Rel σ (pack as) v := by
  obtain ⟨vs, h1, h2⟩ := resA_run (P := P) hf hs _ _ h
  have hres : results fn a.tmps = (do let vs ← fn.results.mapM (resOne a.tmps); pure (if h : vs.size = 1 then vs[0] else .tuple vs)) := by
    unfold results
    congr 2
  rw [hres, Sem.run_bind, ← Array.toArray_toList (xs := fn.results), List.mapM_toArray, Sem.run_map, h1]
  simp only [Result.andThen_ok, Sem.run_pure]
  refine ⟨_, rfl, ?_⟩
  match as, vs, h2 with
  | [], vs, h2 => simp only [Rels] at h2; subst h2; simp [pack, Rel, allVals]
  | [x], vs, h2 =>
    simp only [Rels] at h2
    obtain ⟨y, ys, rfl, h3, rfl⟩ := h2
    simpa [pack] using h3
  | x :: x' :: r, vs, h2 =>
    have h3 := pack_rel h2 (by simp)
    simp only [Rels] at h2
    obtain ⟨y, ys, rfl, h4, y', ys', rfl, h5, h6⟩ := h2
    simpa using h3

def fnRun (P : Program) (F : Nat) (call : CallP) (wy : Way) (hB : Hints) : CallR β := fun f args H lo hi K =>
  match P.funcs[f]? with
  | none => none
  | some fn => match fn.body with
    | none => none
    | some c => match Nat.ble args.length fn.ntmps with
      | false => none
      | true => forceL (args ++ List.replicate (fn.ntmps - args.length) (.val undef)) fun tmps =>
        forceN ((hi - lo) / 2 ^ 20) fun step =>
        run P call fn.ntmps wy hB F β c ⟨tmps, H, lo, hi, step, []⟩ fun e s => match e with
          | .exit _ => none
          | .normal | .ret => match resA P s fn.results.toList with
            | some l => match noAv (subheap s.heap (reach 1000 s.heap (namesL l ++ H.map (·.1)) [])) with
              | true => K (pack l) (subheap s.heap (reach 1000 s.heap (namesL l ++ H.map (·.1)) []))
              | false => none
            | none => none

theorem Rels.undefs (σ : Nat → Option Nat) (n : Nat) : Rels σ (List.replicate n (.val undef)) (List.replicate n undef) := by
  induction n with
  | zero => simp [Rels]
  | succ n ih => simp only [List.replicate_succ, Rels]; exact ⟨_, _, rfl, by simp [Rel], ih⟩

theorem hget_subheap {heap : Hp} {b : Nat} {c : Con} : ∀ {l : List Nat}, hget (subheap heap l) b = some c → hget heap b = some c
  | [], h => by simp [subheap, hget] at h
  | x :: l, h => by
    simp only [subheap] at h
    split at h
    · rename_i c' hc
      simp only [hget] at h
      split at h
      · rename_i e
        rw [← Nat.eq_of_beq_eq_true e, hc]; exact h
      · exact hget_subheap h
    · exact hget_subheap h

theorem fnRun_facts {P : Program} {F : Nat} {call : CallP} {wy : Way} {hB : Hints} (hcall : ∀ β, CallOk P (call β)) {f : FuncId} (hfit : ∀ fn c, P.funcs[f]? = some fn → fn.body = some c → HFit P fn.ntmps hB c) (args : List AV) (H : Hp) (lo hi : Nat) (K : AV → Hp → Option β) (res : β) (h : fnRun P F call wy hB f args H lo hi K = some res) :
    ∃ r H', K r H' = some res ∧ CallFacts P f args H lo hi r H' := by
  unfold fnRun at h
  split at h
  · cases h
  · rename_i fn hfn
    split at h
    · cases h
    · rename_i c hbody
      split at h
      · cases h
      · rename_i hle
        have hle := Nat.le_of_ble_eq_true hle
        rw [forceL_eq, forceN_eq] at h
        obtain ⟨e, s', h1, h2, _⟩ := (run_sound hcall F).1 β res c _ _ (hfit fn c hfn hbody) h
        have key : ∃ l, resA P s' fn.results.toList = some l ∧ noAv (subheap s'.heap (reach 1000 s'.heap (namesL l ++ H.map (·.1)) [])) = true ∧ K (pack l) (subheap s'.heap (reach 1000 s'.heap (namesL l ++ H.map (·.1)) [])) = some res ∧ (e = .normal ∨ e = .ret) := by
          cases e with
          | exit id => simp at h1
          | normal =>
            simp only at h1
            split at h1
            · rename_i l hl
              split at h1
              · rename_i hno; exact ⟨l, hl, hno, h1, .inl rfl⟩
              · cases h1
            · cases h1
          | ret =>
            simp only at h1
            split at h1
            · rename_i l hl
              split at h1
              · rename_i hno; exact ⟨l, hl, hno, h1, .inr rfl⟩
              · cases h1
            · cases h1
        obtain ⟨l, hl, hnoav, hK, he⟩ := key
        refine ⟨pack l, _, hK, fun σ vals w hinj hbd hvals hH hn => ?_⟩
        have hlen := Rels.length hvals
        -- the start
        refine calls_of_wp hfn hbody ?_
        let own : Nat → Prop := fun k => ∃ b c, hget H b = some c ∧ σ b = some k
        have hargsR : Rels σ (args ++ List.replicate (fn.ntmps - args.length) (.val undef)) (vals ++ List.replicate (fn.ntmps - args.length) undef) := Rels.append hvals (Rels.undefs σ _)
        have hst : StFits fn.ntmps w own σ lo hi ⟨args ++ List.replicate (fn.ntmps - args.length) (.val undef), H, lo, hi, (hi - lo) / 2 ^ 20, []⟩
            { tmps := List.toArray vals ++ Array.replicate (fn.ntmps - (List.toArray vals).size) undef, defers := [] } w := by
          refine ⟨σ, stU (args ++ List.replicate (fn.ntmps - args.length) (.val undef)) H, ⟨rfl, ?_, fun t v hv => ?_, fun b e cs hb => hH b _ hb, fun b o hb => hH b _ hb, hinj, hbd, fun b e cs r hb hs => .inl ⟨b, _, hb, hs⟩, fun b o r hb hs => .inl ⟨b, _, hb, hs⟩, rfl, rfl, rfl, Nat.le_refl _, fun k _ _ => rfl⟩, Sub.refl _, hn, Le.refl _, fun b hb _ => hb, Nat.le_refl _, Nat.le_refl _⟩
          · simp; omega
          · simp only [stU, Option.map_eq_some_iff, Con.av.injEq] at hv
            obtain ⟨x, hx, rfl⟩ := hv
            obtain ⟨y, hy, hrel⟩ := Rels.get hargsR hx
            refine ⟨y, ?_, hrel⟩
            rw [← hy]
            have : (List.toArray vals ++ Array.replicate (fn.ntmps - (List.toArray vals).size) undef) = List.toArray (vals ++ List.replicate (fn.ntmps - args.length) undef) := by
              apply Array.toList_inj.1; simp [hlen]
            simp only [this, List.getElem?_toArray]
        have fini : ∀ a' w', StFits fn.ntmps w own σ lo hi s' a' w' → bodyPost P fn (fun e w' => ∃ σ' v, e = .returned v ∧ Le σ σ' ∧ (∀ b, σ b = none → (b < lo ∨ hi ≤ b) → σ' b = none) ∧ Rel σ' (pack l) v ∧ HFits σ' (subheap s'.heap (reach 1000 s'.heap (namesL l ++ H.map (·.1)) [])) w' ∧
            (∀ b b' r, σ' b = some r → σ' b' = some r → b = b') ∧ (∀ b r, σ' b = some r → r < w'.heap.size) ∧ (∀ b c, hget (subheap s'.heap (reach 1000 s'.heap (namesL l ++ H.map (·.1)) [])) b = some c → (∃ c', hget H b = some c') ∨ ∀ r, σ' b = some r → w.heap.size ≤ r) ∧
            w'.os = w.os ∧ w'.tape = w.tape ∧ w'.output = w.output ∧ w.heap.size ≤ w'.heap.size ∧
            (∀ k, k < w.heap.size → (∀ b c, hget H b = some c → σ b ≠ some k) → w'.heap[k]? = w.heap[k]?)) e.to a' w' := by
          intro a' w' hst'
          obtain ⟨σ', u', hf', hs', hn', hle', hout', _, _⟩ := hst'
          obtain ⟨v, hv, hrel⟩ := run_results (P := P) (fn := fn) hf' hs' hl
          have hnew : ∀ b c, hget (subheap s'.heap (reach 1000 s'.heap (namesL l ++ H.map (·.1)) [])) b = some c → (∃ c', hget H b = some c') ∨ ∀ r, σ' b = some r → w.heap.size ≤ r := by
            intro b c hb
            have hu : u' (.blk b) = some c := hs' _ _ (hget_subheap hb)
            cases c with
            | av x => exact absurd hb (noAv_spec hnoav b x)
            | row e2 cs2 =>
              obtain ⟨r, vs2, k1, _⟩ := hf'.row b e2 cs2 hu
              rcases hf'.ownsR b e2 cs2 r hu k1 with ⟨b0, c0, h3, h4⟩ | h3
              · have := hf'.inj _ _ _ k1 (hle' _ _ h4)
                subst this
                exact .inl ⟨c0, h3⟩
              · exact .inr fun r' hr' => by rw [k1] at hr'; cases hr'; exact h3
            | obj o2 =>
              obtain ⟨r, k1, _⟩ := hf'.obj b o2 hu
              rcases hf'.ownsO b o2 r hu k1 with ⟨b0, c0, h3, h4⟩ | h3
              · have := hf'.inj _ _ _ k1 (hle' _ _ h4)
                subst this
                exact .inl ⟨c0, h3⟩
              · exact .inr fun r' hr' => by rw [k1] at hr'; cases hr'; exact h3
          have hHF : HFits σ' (subheap s'.heap (reach 1000 s'.heap (namesL l ++ H.map (·.1)) [])) w' := by
            intro b c hb
            have hu : u' (.blk b) = some c := hs' _ _ (hget_subheap hb)
            cases c with
            | av x => trivial
            | row e2 cs2 => exact hf'.row b e2 cs2 hu
            | obj o2 => exact hf'.obj b o2 hu
          have hR : (fun e w' => ∃ σ' v, e = Ending.returned v ∧ Le σ σ' ∧ (∀ b, σ b = none → (b < lo ∨ hi ≤ b) → σ' b = none) ∧ Rel σ' (pack l) v ∧ HFits σ' (subheap s'.heap (reach 1000 s'.heap (namesL l ++ H.map (·.1)) [])) w' ∧
            (∀ b b' r, σ' b = some r → σ' b' = some r → b = b') ∧ (∀ b r, σ' b = some r → r < w'.heap.size) ∧ (∀ b c, hget (subheap s'.heap (reach 1000 s'.heap (namesL l ++ H.map (·.1)) [])) b = some c → (∃ c', hget H b = some c') ∨ ∀ r, σ' b = some r → w.heap.size ≤ r) ∧
            w'.os = w.os ∧ w'.tape = w.tape ∧ w'.output = w.output ∧ w.heap.size ≤ w'.heap.size ∧
            (∀ k, k < w.heap.size → (∀ b c, hget H b = some c → σ b ≠ some k) → w'.heap[k]? = w.heap[k]?)) (.returned v) w' :=
            ⟨σ', v, rfl, hle', hout', hrel, hHF, hf'.inj, hf'.bound, hnew, hf'.os, hf'.tape, hf'.output, hf'.grown, fun k hk hk2 => hf'.frame k hk fun ⟨b, c, h3, h4⟩ => hk2 b c h3 h4⟩
          rcases he with rfl | rfl
          · exact bodyPost_end hv hf'.defers hR
          · exact bodyPost_ret hv hf'.defers hR
        exact h2 w own σ lo hi _ w hst _ fini
theorem fnRun_ok {P : Program} {F : Nat} {call : CallP} {wy : Way} (hcall : ∀ β, CallOk P (call β)) : CallOk P (fnRun (β := β) P F call wy []) := by
  intro f args H lo hi K res h
  exact fnRun_facts hcall (fun fn c _ _ => HFit.nil c) args H lo hi K res h

end Go.Ab
