/- A part of the proof of 'FrameOpens': lemmas, no statement of their own; no condition. -/
import Derived.Test.YtanilhagglikjaaFrM
import Derived.Lib.Bytealg
/- The frames of a stream, plain. -/
namespace Go.Ab
open Go
abbrev Scd := List Fr × List UInt8 × Nat
def skipS (x : Scd) : Scd := (x.1, x.2.1, x.2.2 + 1)
def consS (f : Fr) (x : Scd) : Scd := (f :: x.1, x.2)
def stepS (rec : List UInt8 → Scd) (l : List UInt8) : Scd :=
  match l with
  | [] => ([], [], 0)
  | b :: r =>
    if b = 165 then
      if (b :: r).length < 3 then ([], b :: r, 0)
      else if 64 < ((b :: r).getD 2 0).toNat then skipS (rec r)
      else if (b :: r).length < ((b :: r).getD 2 0).toNat + 5 then ([], b :: r, 0)
      else if (openV (bsL ((b :: r).take (((b :: r).getD 2 0).toNat + 5)))).b then consS (openV (bsL ((b :: r).take (((b :: r).getD 2 0).toNat + 5)))).a (rec ((b :: r).drop (((b :: r).getD 2 0).toNat + 5)))
      else skipS (rec r)
    else skipS (rec r)
def scanF : Nat → List UInt8 → Scd
  | 0 => fun _ => ([], [], 0)
  | n + 1 => stepS (scanF n)
theorem step_congr {f g : List UInt8 → Scd} {l : List UInt8} (h : ∀ m, m.length < l.length → f m = g m) : stepS f l = stepS g l := by
  unfold stepS
  cases l with
  | nil => rfl
  | cons b r =>
    have hr := h r (by simp)
    have hd : f ((b :: r).drop (((b :: r).getD 2 0).toNat + 5)) = g ((b :: r).drop (((b :: r).getD 2 0).toNat + 5)) := h _ (by simp; omega)
    simp only [hr, hd]
theorem scan_fuel : ∀ (n : Nat) (l : List UInt8), l.length ≤ n → scanF n l = scanF l.length l := by
  intro n
  induction n using Nat.strongRecOn with
  | _ n ih =>
    intro l hl
    cases l with
    | nil => cases n <;> rfl
    | cons b r =>
      cases n with
      | zero => simp at hl
      | succ n =>
        show stepS (scanF n) (b :: r) = stepS (scanF r.length) (b :: r)
        refine step_congr fun m hm => ?_
        simp only [List.length_cons] at hm hl
        rw [ih n (by omega) m (by omega)]
        rcases Nat.lt_or_ge r.length (n + 1) with h | h
        · exact (ih r.length h m (by omega)).symm
        · have : r.length = n := by omega
          rw [this]
          exact (ih n (by omega) m (by omega)).symm
/-- The frames, what is left, and how much was passed over. -/
def scanV (l : List UInt8) : Scd := scanF l.length l
theorem scan_eq (l : List UInt8) : scanV l = stepS scanV l := by
  cases l with
  | nil => rfl
  | cons b r =>
    show stepS (scanF r.length) (b :: r) = _
    refine step_congr fun m hm => ?_
    simp only [List.length_cons] at hm
    exact scan_fuel r.length m (by omega)
theorem scan_nil : scanV [] = ([], [], 0) := rfl
theorem scan_other {b : UInt8} {r : List UInt8} (h : b ≠ 165) : scanV (b :: r) = skipS (scanV r) := by
  rw [scan_eq]
  show (if b = 165 then _ else _) = _
  rw [if_neg h]
def addO (o : Nat) (x : Scd) : Scd := (x.1, x.2.1, x.2.2 + o)
theorem addO_skip (o : Nat) (x : Scd) : addO o (skipS x) = addO (o + 1) x := by unfold addO skipS; simp only [Prod.mk.injEq, true_and]; omega
theorem skip_addO (o : Nat) (x : Scd) : skipS (addO o x) = addO (o + 1) x := by unfold addO skipS; simp only [Prod.mk.injEq, true_and]; omega
theorem scan_skip : ∀ (i : Nat) (l : List UInt8), i ≤ l.length → (∀ j, j < i → l.getD j 0 ≠ 165) → scanV l = addO i (scanV (l.drop i))
  | 0, l, _, _ => by simp [addO]
  | i + 1, [], h, _ => by simp at h
  | i + 1, b :: r, h, hn => by
    have h0 : b ≠ 165 := hn 0 (by omega)
    rw [scan_other h0, scan_skip i r (by simpa using h) fun j hj => by simpa using hn (j + 1) (by omega), List.drop_succ_cons, skip_addO]
theorem scan_none {l : List UInt8} (h : ∀ j, j < l.length → l.getD j 0 ≠ 165) : scanV l = ([], [], l.length) := by
  rw [scan_skip l.length l (Nat.le_refl _) h, List.drop_length, scan_nil]
  simp [addO]
theorem open_third {l : List UInt8} (h : (openV (bsL l)).b = true) : (l.getD 2 0).toNat ≤ 64 ∧ 5 ≤ l.length := by
  unfold openV at h
  dsimp only at h
  rw [data_bsL] at h
  split at h
  · rename_i g
    obtain ⟨g1, g2, g3⟩ := g
    refine ⟨?_, g1⟩
    rw [g3]
    unfold wrapL bodyL
    show (UInt8.ofNat _).toNat ≤ 64
    have := ofNat8 (x := ((l.drop 3).take (l.length - 5)).length) (by omega)
    omega
  · cases h
theorem index_facts : ∀ (l : List UInt8) (c : UInt8), (Lib.indexByte l c = -1 ∧ ∀ j, j < l.length → l.getD j 0 ≠ c) ∨ ∃ i : Nat, Lib.indexByte l c = i ∧ i < l.length ∧ l.getD i 0 = c ∧ ∀ j, j < i → l.getD j 0 ≠ c
  | [], c => .inl ⟨rfl, fun j h => by simp at h⟩
  | b :: l, c => by
    unfold Lib.indexByte
    by_cases hb : b = c
    · exact .inr ⟨0, by simp [hb], by simp, hb, fun j h => by omega⟩
    · have e : (b == c) = false := beq_eq_false_iff_ne.2 hb
      rw [e]
      simp only [Bool.false_eq_true, if_false]
      rcases index_facts l c with ⟨h1, h2⟩ | ⟨i, h1, h2, h3, h4⟩
      · left
        rw [h1]
        refine ⟨by simp, fun j hj => ?_⟩
        cases j with
        | zero => exact hb
        | succ j => simpa using h2 j (by simpa using hj)
      · right
        rw [h1]
        have : ((i : Int) == -1) = false := beq_eq_false_iff_ne.2 (by omega)
        rw [this]
        refine ⟨i + 1, by simp, by simpa using h2, by simpa using h3, fun j hj => ?_⟩
        cases j with
        | zero => exact hb
        | succ j => simpa using h4 j (by omega)
/-- What frame.Scan does at a mark. -/
theorem scan_mark {l : List UInt8} (h0 : l.getD 0 0 = 165) (hl : 0 < l.length) :
    scanV l = if l.length < 3 then ([], l, 0) else if (l.getD 2 0).toNat + 5 > l.length ∧ (l.getD 2 0).toNat + 5 ≤ 69 then ([], l, 0) else
      if (openV (bsL (l.take (min ((l.getD 2 0).toNat + 5) l.length)))).b then consS (openV (bsL (l.take (min ((l.getD 2 0).toNat + 5) l.length)))).a (scanV (l.drop ((l.getD 2 0).toNat + 5))) else skipS (scanV (l.drop 1)) := by
  cases l with
  | nil => simp at hl
  | cons b r =>
    have hb : b = 165 := h0
    rw [scan_eq]
    show (if b = 165 then _ else _) = _
    rw [if_pos hb, List.drop_one, List.tail_cons]
    by_cases h3 : (b :: r).length < 3
    · rw [if_pos h3, if_pos h3]
    rw [if_neg h3, if_neg h3]
    generalize hm : ((b :: r).getD 2 0).toNat = m
    by_cases h64 : 64 < m
    · rw [if_pos h64, if_neg (fun g => by omega)]
      have hno : ¬ (openV (bsL ((b :: r).take (min (m + 5) (b :: r).length)))).b = true := by
        intro g
        have := (open_third g).1
        have e : ((b :: r).take (min (m + 5) (b :: r).length)).getD 2 0 = (b :: r).getD 2 0 := by
          rw [List.getD_eq_getElem?_getD, List.getD_eq_getElem?_getD, List.getElem?_take]
          rw [if_pos (by simp only [List.length_cons] at h3 ⊢; omega)]
        rw [e, hm] at this
        omega
      rw [if_neg hno]
    · rw [if_neg h64]
      by_cases h5 : (b :: r).length < m + 5
      · rw [if_pos h5, if_pos ⟨h5, by omega⟩]
      · have e : min (m + 5) (b :: r).length = m + 5 := by omega
        rw [if_neg h5, e]
        exact (if_neg (c := m + 5 > (b :: r).length ∧ m + 5 ≤ 69) fun g => h5 g.1).symm
end Go.Ab
