/- A part of the proof of 'CraftForeign': lemmas, no statement of their own; no condition. -/
import Derived.Test.YtoocjipllmkjcaaGreatGAbM
import Derived.ProofKit
import Derived.OpenShut
import Derived.ShutString
namespace Go.Ab
inductive Leaf where
  | int (k : IntKind) | bool | string
def Leafs : List Leaf → List Value → Prop
  | [], cs => cs = []
  | .int k :: ks, cs => ∃ x r, cs = .int k x :: r ∧ (Lit.int k x).wf = true ∧ Leafs ks r
  | .bool :: ks, cs => ∃ b r, cs = .bool b :: r ∧ Leafs ks r
  | .string :: ks, cs => ∃ s r, cs = .string s :: r ∧ s.size ≤ maxLen ∧ Leafs ks r
theorem Leafs.append : ∀ {ks ls : List Leaf} {cs ds : List Value}, Leafs ks cs → Leafs ls ds → Leafs (ks ++ ls) (cs ++ ds)
  | [], ls, cs, ds, h, k => by simp only [Leafs] at h; subst h; exact k
  | .int q :: ks, ls, cs, ds, h, k => by simp only [Leafs] at h; obtain ⟨x, r, rfl, w, h⟩ := h; simp only [List.cons_append, Leafs]; exact ⟨x, _, rfl, w, h.append k⟩
  | .bool :: ks, ls, cs, ds, h, k => by simp only [Leafs] at h; obtain ⟨x, r, rfl, h⟩ := h; simp only [List.cons_append, Leafs]; exact ⟨x, _, rfl, h.append k⟩
  | .string :: ks, ls, cs, ds, h, k => by simp only [Leafs] at h; obtain ⟨x, r, rfl, w, h⟩ := h; simp only [List.cons_append, Leafs]; exact ⟨x, _, rfl, w, h.append k⟩
def shapeL (P : Program) (sh : TypeId → Option (List Leaf)) : Nat → List (TypeId × Nat) → Option (List Leaf)
  | _, [] => some []
  | off, (t, o) :: r => match Nat.beq o off, sh t with
    | true, some ks => match Nat.beq ks.length (P.cellsOf t), shapeL P sh (off + ks.length) r with
      | true, some ls => some (ks ++ ls)
      | _, _ => none
    | _, _ => none
def shape (P : Program) : Nat → TypeId → Option (List Leaf)
  | 0, _ => none
  | n + 1, t => match P.underlying t with
    | some .bool => some [.bool]
    | some (.int k) => some [.int k]
    | some .string => some [.string]
    | some (.struct fs) => match shapeL P (shape P n) 0 (fs.toList.map fun f => (f.type, f.offset)) with
      | some ks => match Nat.beq ks.length (P.cellsOf t) with | true => some ks | false => none
      | none => none
    | some (.array m e) => match shapeL P (shape P n) 0 ((List.range m).map fun i => (e, i * P.cellsOf e)) with
      | some ks => match Nat.beq ks.length (P.cellsOf t) with | true => some ks | false => none
      | none => none
    | _ => none
section
variable {H : Type} {enc : TypeId × Value → H} {P : Program} {W : World} {base : Nat} {spare : Nat → Bool} {held : Bool}
theorem shapeL_spec {fuel : Nat} {sh : TypeId → Option (List Leaf)} (hsh : ∀ t ks cs d ps, sh t = some ks → DataW.trod enc P W base spare held fuel t cs = some (d, ps) → Leafs ks cs ∧ ps = []) (cs : List Value) :
    ∀ (l : List (TypeId × Nat)) (off : Nat) (ks : List Leaf) (xs : List (DataW H × List MemPlace)), shapeL P sh off l = some ks → l.mapM (fun x => DataW.trod enc P W base spare held fuel x.1 ((cs.drop x.2).take (P.cellsOf x.1))) = some xs →
      Leafs ks ((cs.drop off).take ks.length) ∧ xs.flatMap (·.2) = []
  | [], off, ks, xs, h, k => by
    simp only [shapeL, Option.some.injEq] at h; subst h
    simp at k; subst k
    simp [Leafs]
  | (t, o) :: r, off, ks, xs, h, k => by
    simp only [shapeL] at h
    split at h
    · rename_i k1 ho hk1
      have ho := Nat.eq_of_beq_eq_true ho
      split at h
      · rename_i ls hl hls
        have hl := Nat.eq_of_beq_eq_true hl
        cases h
        rw [List.mapM_cons] at k
        simp only [Option.bind_eq_bind, Option.bind_eq_some_iff, Option.pure_def, Option.some.injEq] at k
        obtain ⟨y, hy, ys, hys, rfl⟩ := k
        obtain ⟨h1, h2⟩ := hsh t k1 _ y.1 y.2 hk1 (by rw [hy])
        obtain ⟨h3, h4⟩ := shapeL_spec hsh cs r _ ls ys hls hys
        rw [ho, ← hl] at h1
        refine ⟨?_, by simp [h2, h4]⟩
        have e : (cs.drop off).take (k1 ++ ls).length = (cs.drop off).take k1.length ++ (cs.drop (off + k1.length)).take ls.length := by
          rw [List.length_append, List.take_add, List.drop_drop]
        rw [e]
        exact h1.append h3
      · cases h
    · cases h
theorem shape_spec : ∀ (n fuel : Nat) (t : TypeId) (ks : List Leaf) (cs : List Value) (d : DataW H) (ps : List MemPlace), shape P n t = some ks → DataW.trod enc P W base spare held fuel t cs = some (d, ps) → Leafs ks cs ∧ ps = []
  | 0, _, _, _, _, _, _, h, _ => by simp [shape] at h
  | n + 1, 0, _, _, _, _, _, _, k => by simp [DataW.trod] at k
  | n + 1, fuel + 1, t, ks, cs, d, ps, h, k => by
    simp only [shape] at h
    split at h
    · rename_i hu
      cases h
      simp only [DataW.trod, hu] at k
      split at k <;> simp_all [Leafs]
    · rename_i q hu
      cases h
      simp only [DataW.trod, hu] at k
      split at k <;> simp_all [Leafs]
    · rename_i hu
      cases h
      simp only [DataW.trod, hu] at k
      split at k <;> simp_all [Leafs]
    · rename_i fs hu
      split at h
      · rename_i ks' hk
        split at h
        · rename_i hl
          have hl := Nat.eq_of_beq_eq_true hl
          cases h
          simp only [DataW.trod, hu] at k
          split at k
          · rename_i hlen
            simp only [Option.map_eq_some_iff, Prod.mk.injEq] at k
            obtain ⟨xs, hxs, _, rfl⟩ := k
            have := shapeL_spec (enc := enc) (W := W) (base := base) (spare := spare) (held := held) (fuel := fuel) (fun t ks cs d ps => shape_spec n fuel t ks cs d ps) cs (fs.toList.map fun f => (f.type, f.offset)) 0 ks xs hk (by
              rw [List.mapM_map]; exact hxs)
            refine ⟨?_, this.2⟩
            have h3 := this.1
            rw [List.drop_zero, List.take_of_length_le (by omega)] at h3
            exact h3
          · cases k
        · cases h
      · cases h
    · rename_i m e hu
      split at h
      · rename_i ks' hk
        split at h
        · rename_i hl
          have hl := Nat.eq_of_beq_eq_true hl
          cases h
          simp only [DataW.trod, hu] at k
          split at k
          · rename_i hlen
            simp only [Option.map_eq_some_iff, Prod.mk.injEq] at k
            obtain ⟨xs, hxs, _, rfl⟩ := k
            have := shapeL_spec (enc := enc) (W := W) (base := base) (spare := spare) (held := held) (fuel := fuel) (fun t ks cs d ps => shape_spec n fuel t ks cs d ps) cs ((List.range m).map fun i => (e, i * P.cellsOf e)) 0 ks xs hk (by
              rw [List.mapM_map]; exact hxs)
            refine ⟨?_, this.2⟩
            have h3 := this.1
            rw [List.drop_zero, List.take_of_length_le (by omega)] at h3
            exact h3
          · cases k
        · cases h
      · cases h
    · cases h
theorem open_plain {r : Reach} {b0 n : Nat} {t : TypeId} {v : Value} {d : DataW H} {p : List MemPlace} {ks : List Leaf} (hs : shape P n t = some ks) (hagg : (P.underlying t).map isAggD = some true)
    (hv : Value.okWide P W r b0 t v) (h : DataW.Trod enc P W base spare held t v d p) : p = [] ∧ ∃ cs, v = .agg (List.toArray cs) ∧ Leafs ks cs := by
  obtain ⟨fuel, hf⟩ := h
  obtain ⟨h1, rfl⟩ := shape_spec n fuel t ks _ d p hs hf
  refine ⟨rfl, ?_⟩
  unfold Value.okWide at hv
  have : ∃ arr, v = .agg arr := by
    cases hu : P.underlying t with
    | none => simp [hu] at hagg
    | some ty =>
      rw [hu] at hv hagg
      cases ty <;> simp [isAggD] at hagg
      · obtain ⟨cs, rfl, _⟩ := hv; exact ⟨cs, rfl⟩
      · obtain ⟨cs, rfl, _⟩ := hv; exact ⟨cs, rfl⟩
  obtain ⟨arr, rfl⟩ := this
  exact ⟨arr.toList, by simp, h1⟩
end
end Go.Ab
