/- A part of the proof of 'FrameOpens': lemmas, no statement of their own; no condition. -/
import Derived.Test.YtanilhagglikjaaMaA
import Derived.Test.YtanilhagglikjaaAbTwo
/- An argument that is a slice of plain data: its elements' cells. -/
namespace Go.Ab
open Go Go.ChangeShapes Go.WideShapes
section
variable {H : Type} {enc : TypeId × Value → H} {P : Program} {W : World} {spare : Nat → Bool} {held : Bool}
/-- A slice of plain data in memory. -/
def RowsAt (W : World) (ks : List Leaf) (a : Option Addr) (len cap : Nat) : Prop :=
  len ≤ cap ∧ cap ≤ maxLen ∧ (len = 0 ∨ ∃ a', a = some a' ∧ ∀ i, i < len → ∃ cs, Leafs ks cs ∧ W.cells? 0 (a'.add (i * ks.length)) ks.length = some cs)
theorem open_rows {n : Nat} {r : Reach} {b0 : Nat} {t e : TypeId} {v : Value} {d : DataW H} {ps : List MemPlace} {ks : List Leaf} (ht : P.underlying t = some (.slice e)) (hs : shape P n e = some ks) (hk : P.cellsOf e = ks.length)
    (hv : Value.okWide P W r b0 t v) (h : DataW.Trod enc P W 0 spare held t v d ps) :
    ∃ (a : Option Addr) (len cap : Nat), v = .slice a len cap ∧ (∀ x ∈ ps, x.block < W.heap.size) ∧ RowsAt W ks a len cap := by
  obtain ⟨a, len, cap, rfl⟩ := okWide_slice ht hv
  obtain ⟨fuel, hf⟩ := h
  have hlt := DataW.trod_lt fuel t _ _ hf
  rcases Go.Deep.open_slice ht hf with ⟨hcs, _⟩ | ⟨a', len', cap', m, n', D, Pl, hcs, _, hl, hm, hmm, _, hi⟩
  · simp [Value.cells] at hcs
    obtain ⟨rfl, rfl, rfl⟩ := hcs
    exact ⟨none, 0, 0, rfl, hlt, Nat.le_refl _, Nat.zero_le _, .inl rfl⟩
  · simp [Value.cells] at hcs
    obtain ⟨rfl, rfl, rfl⟩ := hcs
    refine ⟨some a', len, cap, rfl, hlt, hl, hm, .inr ⟨a', rfl, fun i hil => ?_⟩⟩
    have him : i < m := by rw [hmm]; split <;> omega
    obtain ⟨cs', h1, h2⟩ := hi i him
    rw [hk] at h1
    exact ⟨cs', (shape_spec n n' e ks cs' _ _ hs h2).1, h1⟩
end
/-- The cells of foreign memory, read later on. -/
theorem cells_old {F : Nat → Prop} {w0 w : World} (h : Keep F w0 w) {a : Addr} (hF : F a.block) {n : Nat} {cs : List Value} (hc : w0.cells? 0 a n = some cs) : w.cells? 0 a n = some cs := by
  by_cases hn : n = 0
  · subst hn
    simpa [World.cells?] using hc
  · have e : ∀ i, w.cell? (a.add i) = w0.cell? (a.add i) := by
      intro i
      have hb2 : (a.add i).block = a.block := by unfold Addr.add; split <;> rfl
      simp only [World.cell?, hb2, (h.frame _ hF).2]
    unfold World.cells? at hc ⊢
    simpa only [e] using hc
end Go.Ab
