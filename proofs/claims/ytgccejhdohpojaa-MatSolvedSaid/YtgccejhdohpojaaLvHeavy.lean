/- A part of the proof of 'MatSolved': lemmas, no statement of their own; no condition. -/
import Derived.Test.YtgccejhdohpojaaLvMat
import Derived.Test.YtgccejhdohpojaaNyAll
/- heavy: which matrices are heavy on the diagonal. -/
namespace Go.Ab
open Go Go.Proofs
def restI (m : Mx) (i j : Nat) (rest : Int) : Int := bif Nat.beq i j then rest else IntKind.i64.wrap (rest + if IntKind.i64.wrap (0 - m i j) > m i j then IntKind.i64.wrap (0 - m i j) else m i j)
def hvC (m : Mx) (i : Nat) (K : Int → Option (AV × List Con)) : Nat → Nat → Int → Option (AV × List Con)
  | 0, _, rest => K rest
  | r + 1, j, rest => bif decide (m i j > 1099511627776) then sayF else bif decide (m i j < -1099511627776) then sayF else bif m i j != m j i then sayF else hvC m i K r (j + 1) (restI m i j rest)
def hvR (m : Mx) (n : Nat) : Nat → Nat → Option (AV × List Con)
  | 0, _ => say true
  | r + 1, i => hvC m i (fun rest => bif decide (m i i < IntKind.i64.wrap (rest + 1073741824)) then sayF else hvR m n r (i + 1)) n 0 0
theorem heavy78_1 (m : M6) : fnSum Try.prog { gam := [] } [] 20 78 [.val (Cod.enc m), .val (.int .i64 1)] [] = hvR m.at 1 1 0 := by kernel_rfl
theorem heavy78_2 (m : M6) : fnSum Try.prog { gam := [] } [] 20 78 [.val (Cod.enc m), .val (.int .i64 2)] [] = hvR m.at 2 2 0 := by kernel_rfl
theorem heavy78_3 (m : M6) : fnSum Try.prog { gam := [] } [] 20 78 [.val (Cod.enc m), .val (.int .i64 3)] [] = hvR m.at 3 3 0 := by kernel_rfl
theorem heavy78_4 (m : M6) : fnSum Try.prog { gam := [] } [] 20 78 [.val (Cod.enc m), .val (.int .i64 4)] [] = hvR m.at 4 4 0 := by kernel_rfl
theorem heavy78_5 (m : M6) : fnSum Try.prog { gam := [] } [] 20 78 [.val (Cod.enc m), .val (.int .i64 5)] [] = hvR m.at 5 5 0 := by kernel_rfl
theorem heavy78_6 (m : M6) : fnSum Try.prog { gam := [] } [] 20 78 [.val (Cod.enc m), .val (.int .i64 6)] [] = hvR m.at 6 6 0 := by kernel_rfl
def hbC (m : Mx) (i : Nat) (K : Int → Bool) : Nat → Nat → Int → Bool
  | 0, _, rest => K rest
  | r + 1, j, rest => bif decide (m i j > 1099511627776) then false else bif decide (m i j < -1099511627776) then false else bif m i j != m j i then false else hbC m i K r (j + 1) (restI m i j rest)
def hbR (m : Mx) (n : Nat) : Nat → Nat → Bool
  | 0, _ => true
  | r + 1, i => hbC m i (fun rest => bif decide (m i i < IntKind.i64.wrap (rest + 1073741824)) then false else hbR m n r (i + 1)) n 0 0
theorem hvC_eq {m : Mx} {i : Nat} {K : Int → Option (AV × List Con)} {K' : Int → Bool} (h : ∀ r, K r = say (K' r)) : ∀ (r j : Nat) (rest : Int), hvC m i K r j rest = say (hbC m i K' r j rest)
  | 0, _, rest => h rest
  | r + 1, j, rest => by
    unfold hvC hbC
    rw [hvC_eq h r]
    cases decide (m i j > 1099511627776) <;> cases decide (m i j < -1099511627776) <;> cases m i j != m j i <;> rfl
theorem hvR_eq {m : Mx} {n : Nat} : ∀ (r i : Nat), hvR m n r i = say (hbR m n r i)
  | 0, _ => rfl
  | r + 1, i => by
    unfold hvR hbR
    refine hvC_eq (fun rest => ?_) n 0 0
    rw [hvR_eq r]
    cases decide (m i i < IntKind.i64.wrap (rest + 1073741824)) <;> rfl
def heavyB (p : M6 × Int × Unit) : Bool := hbR p.1.at p.2.1.toNat p.2.1.toNat 0
theorem ok78 : SumOk Try.prog 78 (S0c (fun (p : M6 × Int × Unit) => okN p.2.1) heavyB) := by
  refine S0c_ok (E := { gam := [] }) GamOk.nil 20 fun p hp => ?_
  obtain ⟨m, n, _⟩ := p
  rcases okN_cases hp with h | h | h | h | h | h <;> dsimp only at h <;> subst h
  · exact (heavy78_1 m).trans (hvR_eq 1 0)
  · exact (heavy78_2 m).trans (hvR_eq 2 0)
  · exact (heavy78_3 m).trans (hvR_eq 3 0)
  · exact (heavy78_4 m).trans (hvR_eq 4 0)
  · exact (heavy78_5 m).trans (hvR_eq 5 0)
  · exact (heavy78_6 m).trans (hvR_eq 6 0)
end Go.Ab
