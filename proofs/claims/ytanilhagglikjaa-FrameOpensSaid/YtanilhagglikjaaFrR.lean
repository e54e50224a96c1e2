/- A part of the proof of 'FrameOpens': lemmas, no statement of their own; no condition. -/
import Derived.Test.YtanilhagglikjaaFrQ
/- frame.Scan: its rounds. -/
namespace Go.Ab
open Go Go.Proofs
theorem wk14 (s s' : ByteArray) (a : Option Addr) (n c : Nat) (o m : Int) (x : Two Fr Bool) (g : Option Addr) (n' c' : Nat) (sl p : Value) :
    dropSt [] (others 69 [0, 5, 6]) { sY s a n c o m x with tmps := (sps14 s s' (.slice a n c) (.slice g n' c') sl p x.a m).foldl (fun l p => l.set p.d (.val p.val)) (sY s a n c o m x).tmps } = { sS s' g n' c' o [] with lo := fr2 } := by kernel_rfl
theorem cl14 (s : ByteArray) (a : Option Addr) (n c : Nat) (o : Int) : okClean 4096 { sS s a n c o [] with lo := fr2 } = true := by kernel_rfl
theorem ct14 (s : ByteArray) (a : Option Addr) (n c : Nat) (o : Int) : ({ ({ sS s a n c o [] with lo := fr2 } : St) with lo := 4096, hi := frH } : St) = sS s a n c o [] := by kernel_rfl
theorem lY (s : ByteArray) (a : Option Addr) (n c : Nat) (o m : Int) (x : Two Fr Bool) : (sY s a n c o m x).tmps.length = 69 := by kernel_rfl
theorem hY (s : ByteArray) (a : Option Addr) (n c : Nat) (o m : Int) (x : Two Fr Bool) : hget (sY s a n c o m x).heap 4096 = some (.row 26 ((frCells x.a).map .val)) := by kernel_rfl
theorem row_lt {w : World} {r : Nat} {o : Obj} (h : w.heap[r]? = some o) : r < w.heap.size := by
  rw [Array.getElem?_eq_some_iff] at h
  exact h.1
theorem scan_found {W0 wb : World} {F : Nat → Prop} {s : ByteArray} {a : Option Addr} {n c : Nat} {o m : Int} {x : Two Fr Bool} {fs : List Fr} {act : Act} {w : World} (L : Live W0 F wb) (hst : Stand F wb 69 (sY s a n c o m x) act w)
    (hown : wb.ownsRow W0.heap.size 26 2 (.slice a n c) n (cellsF fs)) (hF : ∀ r, (Value.slice a n c).ownBlock = some r → F r) (hn : n ≤ 1099511627776) (h0 : 0 ≤ m) (hm : m ≤ s.size) {Q : Exit → Act → World → Prop}
    (hQ : ∀ F' wb' a' c' act' w', Live W0 F' wb' → Stand F' wb' 69 (sS (s.extract m.toNat s.size) a' (n + 1) c' o []) act' w' → wb'.ownsRow W0.heap.size 26 2 (.slice a' (n + 1) c') (n + 1) (cellsF (fs ++ [x.a])) → (∀ r, (Value.slice a' (n + 1) c').ownBlock = some r → F' r) → Q .normal act' w') :
    (Code.region 14 sO14 true).wp Try.prog Q act w := by
  obtain ⟨ti, hti, ts, tb, tz⟩ := info26
  obtain ⟨r, h9, hrow⟩ := hst.own (t := 9) (b := 4096) (vs := frCells x.a) rfl (hY ..)
  obtain ⟨hd, hs⟩ := hst.act
  have hFlt : ∀ k, F k → k < w.heap.size := fun k hk => hst.keep.lt hk
  have hownw := owns_keep (w' := w) hown fun k hk => (hst.keep.frame k (hF k hk)).2
  have hbase : ∀ k, (Value.slice a n c).ownBlock = some k → W0.heap.size ≤ k := by
    intro k hk
    rcases hown.2 with ⟨h1, _⟩ | ⟨g, c1, cur, h1, h2, _⟩
    · rw [h1] at hk; cases hk
    · rw [h1] at hk; cases hk; exact h2
  have hLs := L.size hst
  generalize hw0 : ({ w with drawn := w.drawn + 1 } : World) = w00
  have hh0 : w00.heap = w.heap := by rw [← hw0]
  have h0os : w00.os = w.os ∧ w00.tape = w.tape ∧ w00.output = w.output := by rw [← hw0]; exact ⟨rfl, rfl, rfl⟩
  have hown0 := owns_keep (w' := w00) hownw fun k _ => by rw [hh0]
  generalize hw1 : w00.alloc (.cells (List.toArray (frCells x.a)) 26) = w1
  have g1 := alloc_grown w00 (.cells (List.toArray (frCells x.a)) 26)
  rw [hw1] at g1
  have hs1 : w1.heap.size = w.heap.size + 1 := by rw [← hw1, ← hh0]; exact Array.size_push ..
  have hnew : w1.heap[w00.heap.size]? = some (.cells (List.toArray (frCells x.a)) 26 (0, 0)) := by
    rw [← hw1]
    show (w00.heap.push _)[w00.heap.size]? = _
    simp
  have hown1 := owns_keep (w' := w1) hown0 fun k hk => g1.block k (by rw [hh0]; exact hFlt k (hF k hk)) (by simp)
  obtain ⟨v', w2, hr2, own2, g2, n2⟩ := append_fresh (P := Try.prog) w1 33 0 26 ti _ 2 24 v33 hti tz ts tb rfl (by omega) W0.heap.size _ n _ hown1 ⟨w00.heap.size, 0, none⟩ 1 1 (frCells x.a) rfl
    (fun j u hj => by
      rw [addr_add, Nat.zero_add]
      simp only [World.cell?, hnew]
      simpa using hj) (fun u hu => by simp only [frCells, List.mem_cons, List.not_mem_nil, or_false] at hu; rcases hu with rfl | rfl <;> rfl) (by simp only [maxLen]; omega) (by omega) (by omega)
  have hv' : ∃ g c', v' = .slice (some ⟨g, 0, none⟩) (n + 1) c' ∧ g < w2.heap.size := by
    rcases own2.2 with ⟨_, h1⟩ | ⟨g, c', cur, e1, _, e3, _⟩
    · omega
    · exact ⟨g, c', e1, row_lt e3⟩
  obtain ⟨g, c', rfl, hgl⟩ := hv'
  have hsame : ∀ j, j < w.heap.size → (∀ k, (Value.slice a n c).ownBlock = some k → k ≠ j) → w2.heap[j]? = w.heap[j]? := by
    intro j hj hne
    rw [g2.block j (by omega) fun e => hne j e.symm rfl, g1.block j (by rw [hh0]; exact hj) (by simp), hh0]
  have hgrow : w.heap.size ≤ w2.heap.size := by have := g2.size; omega
  refine draw_vals (W := fun | 0 => w00 | 1 => w1 | _ => w2) (N := 69) (e := 2) mixed (len14 s (s.extract m.toNat s.size) (.slice a n c) (.slice (some ⟨g, 0, none⟩) (n + 1) c') (.slice (some ⟨w00.heap.size, 0, none⟩) 1 1) (.pointer (some ⟨r, 0, none⟩)) x.a m) (fun k q hk => ?_) (any14 ..)
    (spOk14 (W := fun | 0 => w00 | 1 => w1 | _ => w2) h0 hm (by show w00.heap[r]? = _; rw [hh0]; exact hrow) hw1.symm hr2) hd hs hw0.symm (chOk14 (hst.get rfl) h9 (hst.get rfl) (hst.get rfl)) ?_
  · match k, hk with
    | 0, hk => cases hk; rfl
    | 1, hk => cases hk; rfl
    | 2, hk => cases hk; rfl
    | 3, hk => cases hk; rfl
    | 4, hk => cases hk; rfl
    | 5, hk => cases hk; rfl
    | 6, hk => cases hk; rfl
    | 7, hk => cases hk; rfl
    | 8, hk => cases hk; rfl
    | k + 9, hk => simp [sps14] at hk
  · have hmv := (hst.moved (w' := w2) hgrow fun j hj hnF => hsame j hj fun k hk e => hnF (by rw [← e]; exact hF k hk)).puts (sps14 s (s.extract m.toNat s.size) (.slice a n c) (.slice (some ⟨g, 0, none⟩) (n + 1) c') (.slice (some ⟨w00.heap.size, 0, none⟩) 1 1) (.pointer (some ⟨r, 0, none⟩)) x.a m)
      (fun q hq => by
        simp only [sps14, List.mem_cons, List.not_mem_nil, or_false] at hq
        rcases hq with rfl | rfl | rfl | rfl | rfl | rfl | rfl | rfl | rfl <;> (dsimp only; omega)) (lY ..)
    have hwk := hmv.weak (s' := { sS (s.extract m.toNat s.size) (some ⟨g, 0, none⟩) (n + 1) c' o [] with lo := fr2 }) (by
      rw [← wk14 s (s.extract m.toNat s.size) a n c o m x (some ⟨g, 0, none⟩) (n + 1) c' (.slice (some ⟨w00.heap.size, 0, none⟩) 1 1) (.pointer (some ⟨r, 0, none⟩))]
      exact dropSt_wk _ _ _) (Nat.le_refl _) (Nat.le_refl _)
    have hct := hwk.cut (lo := 4096) (hi := frH) (cl14 ..)
    rw [ct14] at hct
    refine hQ (Wide F w w2) w2 (some ⟨g, 0, none⟩) c' _ w2 (L.step hst (g2.os.trans (g1.os.trans h0os.1)) (g2.tape.trans (g1.tape.trans h0os.2.1)) (g2.output.trans (g1.output.trans h0os.2.2)) hgrow fun j hj => hsame j (by omega) fun k hk e => by have := hbase k hk; omega) hct ?_ fun k hk => ?_
    · have e : cellsF (fs ++ [x.a]) = cellsF fs ++ frCells x.a := by unfold cellsF; rw [List.flatMap_append]; simp
      rw [e]
      exact own2
    · cases hk
      rcases n2 g rfl with h | h
      · exact .inl (hF g h)
      · have h : w1.heap.size ≤ g := h
        exact .inr ⟨by show w.heap.size ≤ g; omega, hgl⟩
/-- What a call of Scan comes to. -/
def ScanX (W0 : World) (x : Scd) (v : Value) (w' : World) : Prop := ∃ a c, v = .tuple #[.slice a x.1.length c, .string (bsL x.2.1), .int .i64 (x.2.2 : Int)] ∧ w'.ownsRow W0.heap.size 26 2 (.slice a x.1.length c) x.1.length (cellsF x.1)
def ScanR (W0 : World) (x : Scd) (act : Act) (w : World) : Prop := ∃ v, (results Try.f16 act.tmps).run Try.prog w = .ok v w ∧ act.defers = [] ∧ RowKit.Below W0.heap.size W0 w ∧ ScanX W0 x v w
theorem scan_ret {W0 wb : World} {F : Nat → Prop} {s : St} {a : Option Addr} {n c : Nat} {fs : List Fr} {l : List UInt8} {o : Nat} {act : Act} {w : World} (L : Live W0 F wb) (hst : Stand F wb 69 s act w) (hown : wb.ownsRow W0.heap.size 26 2 (.slice a n c) n (cellsF fs)) (hF : ∀ r, (Value.slice a n c).ownBlock = some r → F r) (hn : fs.length = n)
    (hr : resA Try.prog s Try.f16.results.toList = some [.val (.slice a n c), .val (.string (bsL l)), .val (.int .i64 (o : Int))]) : ScanR W0 (fs, l, o) act w := by
  obtain ⟨y1, y2, y3⟩ := hst.resultsV (P := Try.prog) (fn := Try.f16) (v := .tuple #[.slice a n c, .string (bsL l), .int .i64 (o : Int)]) hr rfl
  subst hn
  exact ⟨_, y1, y2, (L.chain _ y3).below, a, c, rfl, owns_keep hown fun r hr => (hst.keep.frame r (hF r hr)).2⟩
def catS (fs : List Fr) (o : Nat) (x : Scd) : Scd := (fs ++ x.1, x.2.1, o + x.2.2)
section
variable (s s' : ByteArray) (a : Option Addr) (n c : Nat) (o i m : Int) (x : Two Fr Bool)
theorem oS0 : okNamed (mkSt 69 [0] [.string s] [] [] [] 4096 frH frT) = true := by kernel_rfl
theorem oS1 : okNamed (mkSt 69 [0, 5] [.string s, .slice none 0 0] [] [] [] 4096 frH frT) = true := by kernel_rfl
theorem oS2 : okNamed (sS s a n c o []) = true := by kernel_rfl
theorem oS3 : okNamed (sS s a n c o [(7, .int .i64 i)]) = true := by kernel_rfl
theorem oS8 : okNamed (sS s a n c o [(8, .int .i64 i)]) = true := by kernel_rfl
theorem oS4 : okNamed (mkSt 69 [0, 5, 6, 7, 2, 3, 4] [.string s, .slice a n c, .int .i64 o, .int .i64 i, .slice a n c, .string ⟨#[]⟩, .int .i64 m] [] [] [] 4096 frH frT) = true := by kernel_rfl
theorem oS7 : okNamed (mkSt 69 [0, 5, 6, 2, 3, 4] [.string s, .slice a n c, .int .i64 o, .slice a n c, .string s, .int .i64 o] [] [] [] 4096 frH frT) = true := by kernel_rfl
theorem oS10 : okNamed (mkSt 69 [0, 5, 6, 8, 2, 3, 4] [.string s, .slice a n c, .int .i64 o, .int .i64 m, .slice a n c, .string s, .int .i64 o] [] [] [] 4096 frH frT) = true := by kernel_rfl
theorem oSX : okNamed (sX' s a n c o m x) = true := by kernel_rfl
theorem oSY : okNamed (sY s a n c o m x) = true := by kernel_rfl
theorem oS15 : okNamed { sS s a n c o [] with lo := fr2 } = true := by kernel_rfl
theorem rS4 : resA Try.prog (mkSt 69 [0, 5, 6, 7, 2, 3, 4] [.string s, .slice a n c, .int .i64 o, .int .i64 i, .slice a n c, .string ⟨#[]⟩, .int .i64 m] [] [] [] 4096 frH frT) Try.f16.results.toList = some [.val (.slice a n c), .val (.string ⟨#[]⟩), .val (.int .i64 m)] := by kernel_rfl
theorem rS7 : resA Try.prog (mkSt 69 [0, 5, 6, 2, 3, 4] [.string s, .slice a n c, .int .i64 o, .slice a n c, .string s, .int .i64 o] [] [] [] 4096 frH frT) Try.f16.results.toList = some [.val (.slice a n c), .val (.string s), .val (.int .i64 o)] := by kernel_rfl
theorem rS10 : resA Try.prog (mkSt 69 [0, 5, 6, 8, 2, 3, 4] [.string s, .slice a n c, .int .i64 o, .int .i64 m, .slice a n c, .string s, .int .i64 o] [] [] [] 4096 frH frT) Try.f16.results.toList = some [.val (.slice a n c), .val (.string s), .val (.int .i64 o)] := by kernel_rfl
end
theorem scG : GamOk Try.prog (scGam idxV szOk fun p => openV p.1) := .cons okIdx (.cons okOpen .nil)
theorem scCall : ∀ β, CallOk Try.prog (callN Try.prog { gam := scGam idxV szOk fun p => openV p.1 } 1 β) := callN_ok (E := { gam := scGam idxV szOk fun p => openV p.1 }) scG 1
end Go.Ab
