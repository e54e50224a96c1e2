/- A part of the proof of 'MatSolved': lemmas, no statement of their own; no condition. -/
import Derived.Test.YtgccejhdohpojaaSqB
import Derived.Test.YtgccejhdohpojaaMtG
/- Squares of six rows: both packages. -/
namespace Go.Ab
open Go Go.Proofs
def doneT6 (e : TypeId) (r : M6 × Bool) : Option (AV × List Con) := bif r.2 then some (.val (Cod.enc M6.zero), row e r.2) else some (.val (Cod.enc r.1), row e r.2)
theorem sq79 (o : Ops) (p : List Value → Bool) (F : Int → Bool → M6 → M6 → M6 × Bool) (b : Bool) (m : M6) :
    fnSum Try.prog { gam := gamN o } [(0, lwHint 45 [2, 15, 16] fx79 G79 rows79 LO HI ST p (sqPostF F))] 20 79 [.ptr 0 0, .val (Cod.enc m), .val (.int .i64 6)] (row 25 b) =
      bif !!b then some (.val (Cod.enc M6.zero), row 25 b) else bif p (SqS.enc ⟨0, b, m, M6.zero, M6.zero⟩) then doneT6 25 (F 0 b m M6.zero) else none := by kernel_rfl
theorem sq84 (o : Ops) (p : List Value → Bool) (F : Int → Bool → M6 → M6 → M6 × Bool) (b : Bool) (m : M6) :
    fnSum Try.prog { gam := gamN o } [(0, lwHint 59 [2, 2, 8] fx84 G84 rows84 LO HI ST p (sqPostF F))] 20 84 [.ptr 0 0, .val (Cod.enc m), .val (.int .i64 6)] (row 27 b) =
      bif !!b then some (.val (Cod.enc M6.zero), row 27 b) else bif p (SqS.enc ⟨0, b, m, M6.zero, M6.zero⟩) then doneT6 27 (F 0 b m M6.zero) else none := by kernel_rfl
def Agree (A B : Mx) : Prop := ∀ i j, i < 6 → j < 6 → A i j = B i j
theorem setM_agree {A B : Mx} (h : Agree A B) (i j : Nat) (v : Int) : Agree (setM A i j v) (setM B i j v) := by
  intro a b ha hb
  unfold setM
  cases Nat.beq a i && Nat.beq b j
  · exact h a b ha hb
  · rfl
theorem sqRowN_agree (o : Ops) (l : Mx) (n i : Nat) (f : Bool) {A B : Mx} (h : Agree A B) : ∀ k, Agree (sqRowN o l n i (A, f) k).1 (sqRowN o l n i (B, f) k).1 ∧ (sqRowN o l n i (A, f) k).2 = (sqRowN o l n i (B, f) k).2
  | 0 => ⟨h, rfl⟩
  | k + 1 => by
    obtain ⟨h1, h2⟩ := sqRowN_agree o l n i f h k
    simp only [sqRowN, h2]
    exact ⟨setM_agree h1 _ _ _, trivial⟩
def sqGo (o : Ops) (l : Mx) : Nat → Nat → Mx × Bool → Mx × Bool
  | 0, _, st => st
  | k + 1, i, st => sqGo o l k (i + 1) (sqRowN o l 6 i st 6)
theorem sqGo_agree (o : Ops) (l : Mx) : ∀ (k i : Nat) (f : Bool) {A B : Mx}, Agree A B → Agree (sqGo o l k i (A, f)).1 (sqGo o l k i (B, f)).1 ∧ (sqGo o l k i (A, f)).2 = (sqGo o l k i (B, f)).2
  | 0, _, _, _, _, h => ⟨h, rfl⟩
  | k + 1, i, f, A, B, h => by
    obtain ⟨h1, h2⟩ := sqRowN_agree o l 6 i f h 6
    simp only [sqGo]
    rcases hA : sqRowN o l 6 i (A, f) 6 with ⟨A', fa⟩
    rcases hB : sqRowN o l 6 i (B, f) 6 with ⟨B', fb⟩
    rw [hA, hB] at h1 h2
    dsimp only at h1 h2
    subst h2
    exact sqGo_agree o l k (i + 1) fa h1
theorem of_agree {A B : Mx} (h : Agree A B) : M6.of A = M6.of B := by
  have e : ∀ i, i < 6 → R6.of (A i) = R6.of (B i) := by
    intro i hi
    unfold R6.of
    rw [h i 0 hi (by omega), h i 1 hi (by omega), h i 2 hi (by omega), h i 3 hi (by omega), h i 4 hi (by omega), h i 5 hi (by omega)]
  unfold M6.of
  rw [e 0 (by omega), e 1 (by omega), e 2 (by omega), e 3 (by omega), e 4 (by omega), e 5 (by omega)]
theorem at_of (A : Mx) : Agree (M6.of A).at A := by
  intro i j hi hj
  match i, hi, j, hj with
  | 0, _, 0, _ => rfl
  | 0, _, 1, _ => rfl
  | 0, _, 2, _ => rfl
  | 0, _, 3, _ => rfl
  | 0, _, 4, _ => rfl
  | 0, _, 5, _ => rfl
  | 1, _, 0, _ => rfl
  | 1, _, 1, _ => rfl
  | 1, _, 2, _ => rfl
  | 1, _, 3, _ => rfl
  | 1, _, 4, _ => rfl
  | 1, _, 5, _ => rfl
  | 2, _, 0, _ => rfl
  | 2, _, 1, _ => rfl
  | 2, _, 2, _ => rfl
  | 2, _, 3, _ => rfl
  | 2, _, 4, _ => rfl
  | 2, _, 5, _ => rfl
  | 3, _, 0, _ => rfl
  | 3, _, 1, _ => rfl
  | 3, _, 2, _ => rfl
  | 3, _, 3, _ => rfl
  | 3, _, 4, _ => rfl
  | 3, _, 5, _ => rfl
  | 4, _, 0, _ => rfl
  | 4, _, 1, _ => rfl
  | 4, _, 2, _ => rfl
  | 4, _, 3, _ => rfl
  | 4, _, 4, _ => rfl
  | 4, _, 5, _ => rfl
  | 5, _, 0, _ => rfl
  | 5, _, 1, _ => rfl
  | 5, _, 2, _ => rfl
  | 5, _, 3, _ => rfl
  | 5, _, 4, _ => rfl
  | 5, _, 5, _ => rfl
  | n + 6, h, _, _ => omega
  | 0, _, n + 6, h | 1, _, n + 6, h | 2, _, n + 6, h | 3, _, n + 6, h | 4, _, n + 6, h | 5, _, n + 6, h => omega
/-- From row i on. -/
def sqF (o : Ops) (i : Int) (f : Bool) (l m : M6) : M6 × Bool := (M6.of (sqGo o l.at (6 - i.toNat) i.toNat (m.at, f)).1, (sqGo o l.at (6 - i.toNat) i.toNat (m.at, f)).2)
theorem sqF_step (o : Ops) (f : Bool) (l m : M6) {k : Nat} (hk : k < 6) : sqF o (k + 1 : Nat) (sqRow1 o l m k f).2 l (M6.of (sqRow1 o l m k f).1) = sqF o k f l m := by
  unfold sqF
  rw [Int.toNat_natCast, Int.toNat_natCast]
  have e : 6 - k = (6 - (k + 1)) + 1 := by omega
  conv => rhs; rw [e]
  simp only [sqGo]
  obtain ⟨h1, h2⟩ := sqGo_agree o l.at (6 - (k + 1)) (k + 1) (sqRow1 o l m k f).2 (at_of (sqRow1 o l m k f).1)
  have e2 : sqRowN o l.at 6 k (m.at, f) 6 = ((sqRow1 o l m k f).1, (sqRow1 o l m k f).2) := rfl
  rw [e2, h2, of_agree h1]
theorem sqF_all (o : Ops) (b : Bool) (l : M6) : sqF o 0 b l M6.zero = (M6.of (sqN o l.at 6 b 6).1, (sqN o l.at 6 b 6).2) := by
  obtain ⟨h1, h2⟩ := sqGo_agree o l.at 6 0 b (at_of mx0)
  have e : sqGo o l.at 6 0 (mx0, b) = sqN o l.at 6 b 6 := rfl
  rw [e] at h1 h2
  show (M6.of (sqGo o l.at 6 0 ((M6.of mx0).at, b)).1, (sqGo o l.at 6 0 ((M6.of mx0).at, b)).2) = _
  rw [of_agree h1, h2]
end Go.Ab
