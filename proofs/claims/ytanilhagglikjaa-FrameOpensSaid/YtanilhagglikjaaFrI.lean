/- A part of the proof of 'FrameOpens': lemmas, no statement of their own; no condition. -/
import Derived.Test.YtanilhagglikjaaFrG
import Derived.Test.YtanilhagglikjaaFrH
import Derived.Lib.AppendStr
import Derived.Laws.AppendOwn
import Derived.Laws.Slices
/- Slices that grow, by hand. -/
namespace Go.Ab
open Go Go.Proofs
section
variable {P : Program} {N : Nat} {ops : Array Oper} {Q : Exit → Act → World → Prop} {F : Nat → Prop} {w0 : World} {s : St} {a : Act} {w : World}
theorem alloc_old (w : World) (o : Obj) (j : Nat) (hj : j < w.heap.size) : (w.alloc o).heap[j]? = w.heap[j]? := by
  show (w.heap.push o)[j]? = _
  rw [Array.getElem?_push_lt hj, Array.getElem?_eq_getElem hj]
/-- A slice is built in new memory. -/
theorem build_stand {k d len : Nat} {t elem : TypeId} {parts : Array (Nat × Operand)} {vals : List (Nat × Value)} {cells : List Value} (hs : sigOf ops k = some (.buildSlice t len parts, some d, true)) (hd : d < N) (hlen : s.tmps.length = N) (hh : Stand F w0 N s a w)
    (hv : parts.toList.map (fun p => (p.1, a.eval p.2)) = vals) (hc : sliceCells P t len vals = some (elem, cells)) (rest : List Nat)
    (hK : ∀ a', Stand (Wide F w (w.alloc (.cells (List.toArray cells) elem))) (w.alloc (.cells (List.toArray cells) elem)) N { s with tmps := s.tmps.set d (.val (.slice (some ⟨w.heap.size, 0, none⟩) len len)) } a' (w.alloc (.cells (List.toArray cells) elem)) → wpOps P ops Q rest a' (w.alloc (.cells (List.toArray cells) elem))) : wpOps P ops Q (k :: rest) a w := by
  refine op_world hs hd hlen hh (fun o ho => ?_) (by show w.heap.size ≤ (w.heap.push _).size; rw [Array.size_push]; omega) (fun j hj _ => alloc_old w _ j hj) rest hK
  have e1 : (parts.map fun (x : Nat × Operand) => (x.1, a.eval x.2)) = List.toArray vals := by
    rw [← hv]
    apply Array.toList_inj.1
    simp
  have e2 := sliceCells_run (P := P) hc w
  rw [← e1] at e2
  simp only [execOp, ho, Sem.run_bind, e2]
  rfl
/-- A slice grows: in its own row, or in a new one. -/
theorem append_stand {k d : Nat} {x y : Operand} {ts : Array TypeId} {v v' u : Value} {w' : World} (hs : sigOf ops k = some (.call { callee := .builtin .append, args := #[x, y], argTypes := ts }, some d, true)) (hd : d < N) (hlen : s.tmps.length = N) (hh : Stand F w0 N s a w)
    (hx : a.eval x = v) (hy : a.eval y = u) (hrun : ∀ ty, (Builtin.append_ ts ty #[v, u]).run P w = .ok v' w') (hg : w.grownBy w' v.ownBlock) (hF : ∀ r, v.ownBlock = some r → F r) (rest : List Nat)
    (hK : ∀ a', Stand (Wide F w w') w' N { s with tmps := s.tmps.set d (.val v') } a' w' → wpOps P ops Q rest a' w') : wpOps P ops Q (k :: rest) a w := by
  refine op_world hs hd hlen hh (fun o ho => ?_) hg.size (fun j hj hFj => hg.block j hj fun e => hFj (hF j e.symm)) rest hK
  have e : ∀ f : Value → Value, (#[x, y].map a.eval) = #[v, u] := fun _ => by simp [hx, hy]
  simp only [execOp, ho, resolve, invoke, Go.builtin, Sem.run_bind, Sem.run_pure, Result.andThen_ok, hx, hy, List.map_toArray, List.map_cons, List.map_nil, hrun]
end
theorem owns_alloc (w : World) (e : TypeId) (cells : List Value) (n : Nat) (hn : cells.length = n) (hm : n ≤ maxLen) : (w.alloc (.cells (List.toArray cells) e)).ownsRow w.heap.size e 1 (.slice (some ⟨w.heap.size, 0, none⟩) n n) n cells := by
  refine ⟨by omega, .inr ⟨w.heap.size, n, List.toArray cells, rfl, Nat.le_refl _, ?_, Nat.le_refl _, hm, by simp [hn], by simp [← hn]⟩⟩
  show (w.heap.push _)[w.heap.size]? = _
  simp
/-- The bytes that a slice owns, as a string. -/
theorem bytes_string {P : Program} {w : World} {g off len cap : Nat} {src dst e e' : TypeId} {cur : Array Value} {ns : List Int} (hs : P.underlying src = some (.slice e)) (he : P.underlying e = some (.int .u8)) (hd : P.underlying dst = some .string)
    (hg : w.heap[g]? = some (.cells cur e' (0, 0))) (hx : (cur.toList.drop off).take len = ns.map (Value.int .u8)) (hl : ns.length = len) :
    (convert src dst (.slice (some ⟨g, off, none⟩) len cap)).run P w = .ok (.string (ns.foldl pushI ByteArray.empty)) w := by
  have hload := run_loadCells_row (P := P) w g off len e' (0, 0) cur.toList _ hg hx (by simpa using hl)
  rw [run_convert_bytes_string w src dst e _ _ _ hs he hd, run_bytesToString w _ _ _ ns hload]
  rfl
section
variable {P : Program} (w : World)
/-- Behind an append the row is the old one, or a new one. -/
def NewRow (w : World) (v v' : Value) : Prop := ∀ r, v'.ownBlock = some r → v.ownBlock = some r ∨ w.heap.size ≤ r
theorem append_fresh (t ty e : TypeId) (i : TypeInfo) (z : Value) (size bytes : Nat) (ht : P.underlying t = some (.slice e)) (hi : P.info? e = some i) (hz : i.zero = some z)
    (hsize : i.size = size) (hby : i.bytes = bytes) (hzs : z.cells.size = size) (hsz : 0 < size) (base : Nat)
    (v : Value) (n : Nat) (xs : List Value) (hown : w.ownsRow base e size v n xs)
    (a : Addr) (m c : Nat) (news : List Value) (hl : news.length = m * size) (hnews : ∀ j u, news[j]? = some u → w.cell? (a.add j) = some u) (h1 : ∀ u ∈ news, u.oneCell' = true)
    (h63 : n + m ≤ maxLen) (hbytes : (n + m) * bytes ≤ 140737488355328) (hbase : base ≤ w.heap.size) :
    ∃ v' w', (∀ ty, (Builtin.append_ #[t, t] ty #[v, .slice (some a) m c]).run P w = .ok v' w') ∧ w'.ownsRow base e size v' (n + m) (xs ++ news) ∧ w.grownBy w' v.ownBlock ∧ NewRow w v v' := by
  obtain ⟨v', w', hr, h2, h3, h4⟩ := run_append_own (P := P) w base t ty e i z size bytes ht hi hz hsize hby hzs hsz v n xs hown a m c news hl hnews h1 h63 hbytes hbase
  refine ⟨v', w', fun ty => hr, h2, h3, ?_⟩
  subst hsize
  subst hby
  have hsmall : n + m ≤ 9223372036854775807 := by simp only [maxLen] at h63; omega
  rcases hown.2 with ⟨rfl, rfl⟩ | ⟨g, cap, cur, rfl, hbg, hg, hnc, hcm, hcs, htake⟩
  · by_cases hm : m = 0
    · have := h4.2 ⟨rfl, hm⟩
      subst this
      intro r hr'; cases hr'
    · have hq := run_append_nil (P := P) w t ty e i z ht hi hz a m c news hl hnews (by omega) (by omega) (by have hb := hbytes; simp only [Nat.zero_add] at hb; omega)
      rw [hq] at hr
      cases hr
      intro r hr'; cases hr'; exact .inr (Nat.le_refl _)
  · by_cases hroom : n + m ≤ cap
    · have hfit : n * i.size + news.length ≤ cur.size := by rw [hl, hcs, ← Nat.add_mul]; exact Nat.mul_le_mul_right _ hroom
      have hq := run_append_room (P := P) w t ty e i ht hi g n cap cur hg a m c news hl hnews h1 hroom hfit
      rw [hq] at hr
      cases hr
      intro r hr'; exact .inl hr'
    · have holds : ∀ j u, xs[j]? = some u → w.cell? ((⟨g, 0, none⟩ : Addr).add j) = some u := hown.cells (g := g) rfl
      have hq := run_append_grow (P := P) w t ty e i z ht hi hz ⟨g, 0, none⟩ n cap xs hown.1 holds a m c news hl hnews (by omega) (by omega) (growslice_fits (by omega) hbytes)
      rw [hq] at hr
      cases hr
      intro r hr'; cases hr'; exact .inr (Nat.le_refl _)
theorem append_fresh_string (t u ty e : TypeId) (i : TypeInfo) (ht : P.underlying t = some (.slice e)) (hu : P.underlying u = some .string) (hi : P.info? e = some i) (hz : i.zero = some (.int .u8 0))
    (hsize : i.size = 1) (hby : i.bytes = 1) (base : Nat) (v : Value) (n : Nat) (xs : List Value) (hown : w.ownsRow base e 1 v n xs) (hv : 0 < n) (s : ByteArray)
    (h63 : n + s.size ≤ maxLen) (hbytes : n + s.size ≤ 140737488355328) (hbase : base ≤ w.heap.size) :
    ∃ v' w', (∀ ty, (Builtin.append_ #[t, u] ty #[v, .string s]).run P w = .ok v' w') ∧ w'.ownsRow base e 1 v' (n + s.size) (xs ++ Lib.strCells s) ∧ w.grownBy w' v.ownBlock ∧ NewRow w v v' := by
  obtain ⟨v', w', hr, h2, h3, h4⟩ := Lib.run_append_own_string (P := P) w base t u ty e i ht hu hi hz hsize hby v n xs hown s h63 hbytes hbase
  refine ⟨v', w', fun ty => hr, h2, h3, ?_⟩
  rcases hown.2 with ⟨rfl, rfl⟩ | ⟨g, cap, cur, rfl, hbg, hg, hnc, hcm, hcs, htake⟩
  · omega
  · by_cases hroom : n + s.size ≤ cap
    · have hcs' : cur.size = cap := by simpa using hcs
      have hq := Lib.run_append_room_string (P := P) w t u ty e i ht hu hi hsize g n cap cur hg s hroom (by omega)
      rw [hq] at hr
      cases hr
      intro r hr'; exact .inl hr'
    · have holds : ∀ j u, xs[j]? = some u → w.cell? ((⟨g, 0, none⟩ : Addr).add j) = some u := hown.cells (g := g) rfl
      have hq := Lib.run_append_grow_string (P := P) w t u ty e i (.int .u8 0) ht hu hi hz ⟨g, 0, none⟩ n cap xs (by rw [hsize]; exact hown.1) holds s (by omega) (by simp only [maxLen] at h63; omega) (by rw [hby]; exact growslice_fits (by omega) (by omega))
      rw [hq] at hr
      cases hr
      intro r hr'; cases hr'; exact .inr (Nat.le_refl _)
end
end Go.Ab
