/- A part of the proof of 'VecScale': lemmas, no statement of their own; no condition. -/
import Derived.Test.YtgccejhdohpojaaFxI
/- fixed's Mul, Div, Part. -/
namespace Go.Ab
open Go Go.Proofs
variable {β : Type}
/-- take, as fixed's text goes, and as the document's. -/
def ptk : List Int → Bool → (Bool → Option β) → Option β
  | [], f, K => K f
  | x :: r, f, K => bif f then ptk r true K else bif decide (x > 4611686018427387904) then ptk r true K else ptk r (decide (x < -4611686018427387904)) K
def rtk : List Int → Bool → (Bool → Option β) → Option β
  | [], f, K => K f
  | x :: r, f, K => bif decide (x ≥ -4611686018427387904) then (bif !decide (x ≤ 4611686018427387904) then rtk r true K else rtk r f K) else rtk r true K
def nums? : List Int → Bool
  | [] => true
  | x :: r => num x && nums? r
theorem ptk_eq : ∀ (l : List Int) (f : Bool) (K : Bool → Option β), ptk l f K = K (f || !nums? l)
  | [], f, K => by simp [ptk, nums?]
  | x :: r, f, K => by
    simp only [ptk, ptk_eq r, nums?]
    cases f with
    | true => simp
    | false =>
      by_cases h1 : x > 4611686018427387904
      · have : num x = false := by simp [num]; omega
        simp [h1, this]
      · by_cases h2 : x < -4611686018427387904
        · have : num x = false := by simp [num]; omega
          simp [h1, h2, this]
        · have : num x = true := by rw [num_iff]; omega
          simp [h1, h2, this]
theorem rtk_eq : ∀ (l : List Int) (f : Bool) (K : Bool → Option β), rtk l f K = K (f || !nums? l)
  | [], f, K => by simp [rtk, nums?]
  | x :: r, f, K => by
    simp only [rtk, rtk_eq r, nums?]
    by_cases h1 : x > 4611686018427387904
    · have : num x = false := by simp [num]; omega
      have e : decide (x ≤ 4611686018427387904) = false := by simp; omega
      rw [this, e]
      simp
    · by_cases h2 : x < -4611686018427387904
      · have : num x = false := by simp [num]; omega
        have e : decide (x ≥ -4611686018427387904) = false := by simp; omega
        rw [this, e]
        simp
      · have : num x = true := by rw [num_iff]; omega
        have e : decide (x ≤ 4611686018427387904) = true := by simp; omega
        have e2 : decide (x ≥ -4611686018427387904) = true := by simp; omega
        rw [this, e, e2]
        simp
/-- What comes behind take: nothing, or the ratio. -/
def thenR (e : TypeId) (pre : Int × Int × Int × Unit → Bool) (g : Bool → Int × Int × Int × Unit → Int × Bool) (a b c : Int) (f : Bool) : Option (AV × List Con) :=
  bif !!f then some (.val (.int .i64 0), row e f) else bif pre (a, b, c, ()) then some (.val (.int .i64 (g f (a, b, c, ())).1), row e (g f (a, b, c, ())).2) else none
theorem mul121 (pre : Int × Int × Int × Unit → Bool) (g : Bool → Int × Int × Int × Unit → Int × Bool) (x y : Int) (f : Bool) :
    fnSum Try.prog { gam := [(166, Sc 25 pre g)] } [] 20 121 [.ptr 0 0, .val (.int .i64 x), .val (.int .i64 y)] (row 25 f) = ptk [x, y] f (thenR 25 pre g x y 1099511627776) := by kernel_rfl
theorem div135 (pre : Int × Int × Int × Unit → Bool) (g : Bool → Int × Int × Int × Unit → Int × Bool) (x y : Int) (f : Bool) :
    fnSum Try.prog { gam := [(166, Sc 25 pre g)] } [] 20 135 [.ptr 0 0, .val (.int .i64 x), .val (.int .i64 y)] (row 25 f) = ptk [x, y] f (thenR 25 pre g x 1099511627776 y) := by kernel_rfl
theorem part116 (pre : Int × Int × Int × Unit → Bool) (g : Bool → Int × Int × Int × Unit → Int × Bool) (x y z : Int) (f : Bool) :
    fnSum Try.prog { gam := [(166, Sc 25 pre g)] } [] 20 116 [.ptr 0 0, .val (.int .i64 x), .val (.int .i64 y), .val (.int .i64 z)] (row 25 f) = ptk [x, y, z] f (thenR 25 pre g x y z) := by kernel_rfl
theorem mul122 (pre : Int × Int × Int × Unit → Bool) (g : Bool → Int × Int × Int × Unit → Int × Bool) (x y : Int) (f : Bool) :
    fnSum Try.prog { gam := [(168, Sc 27 pre g)] } [] 20 122 [.ptr 0 0, .val (.int .i64 x), .val (.int .i64 y)] (row 27 f) = rtk [x, y] f (thenR 27 pre g x y 1099511627776) := by kernel_rfl
theorem div140 (pre : Int × Int × Int × Unit → Bool) (g : Bool → Int × Int × Int × Unit → Int × Bool) (x y : Int) (f : Bool) :
    fnSum Try.prog { gam := [(168, Sc 27 pre g)] } [] 20 140 [.ptr 0 0, .val (.int .i64 x), .val (.int .i64 y)] (row 27 f) = rtk [x, y] f (thenR 27 pre g x 1099511627776 y) := by kernel_rfl
theorem part118 (pre : Int × Int × Int × Unit → Bool) (g : Bool → Int × Int × Int × Unit → Int × Bool) (x y z : Int) (f : Bool) :
    fnSum Try.prog { gam := [(168, Sc 27 pre g)] } [] 20 118 [.ptr 0 0, .val (.int .i64 x), .val (.int .i64 y), .val (.int .i64 z)] (row 27 f) = rtk [x, y, z] f (thenR 27 pre g x y z) := by kernel_rfl
def fpart (f : Bool) (a b c : Int) : Int × Bool := bif f || !nums? [a, b, c] then (0, true) else fratio false a b c
def fmul (f : Bool) (a b : Int) : Int × Bool := bif f || !nums? [a, b] then (0, true) else fratio false a b 1099511627776
def fdiv (f : Bool) (a b : Int) : Int × Bool := bif f || !nums? [a, b] then (0, true) else fratio false a 1099511627776 b
def ratV (f : Bool) (p : Int × Int × Int × Unit) : Int × Bool := fratio f p.1 p.2.1 p.2.2.1
theorem thenR_eq {e : TypeId} {a b c : Int} {bad : Bool} (h : bad = false → num3 (a, b, c, ()) = true) :
    thenR e num3 ratV a b c bad = some (.val (.int .i64 (bif bad then ((0 : Int), true) else fratio false a b c).1), row e (bif bad then ((0 : Int), true) else fratio false a b c).2) := by
  unfold thenR
  cases bad with
  | true => rfl
  | false => rw [h rfl]; rfl
theorem mulVal_eq (e : TypeId) (x y : Int) (f : Bool) : thenR e num3 ratV x y 1099511627776 (f || !nums? [x, y]) = some (.val (.int .i64 (fmul f x y).1), row e (fmul f x y).2) :=
  thenR_eq fun h => by
    simp only [Bool.or_eq_false_iff, Bool.not_eq_false', nums?, Bool.and_true, Bool.and_eq_true] at h
    simp only [num3, Bool.and_eq_true]
    exact ⟨h.2.1, h.2.2, by decide⟩
theorem divVal_eq (e : TypeId) (x y : Int) (f : Bool) : thenR e num3 ratV x 1099511627776 y (f || !nums? [x, y]) = some (.val (.int .i64 (fdiv f x y).1), row e (fdiv f x y).2) :=
  thenR_eq fun h => by
    simp only [Bool.or_eq_false_iff, Bool.not_eq_false', nums?, Bool.and_true, Bool.and_eq_true] at h
    simp only [num3, Bool.and_eq_true]
    exact ⟨h.2.1, by decide, h.2.2⟩
theorem partVal_eq (e : TypeId) (x y z : Int) (f : Bool) : thenR e num3 ratV x y z (f || !nums? [x, y, z]) = some (.val (.int .i64 (fpart f x y z).1), row e (fpart f x y z).2) :=
  thenR_eq fun h => by
    simp only [Bool.or_eq_false_iff, Bool.not_eq_false', nums?, Bool.and_true, Bool.and_eq_true] at h
    simp only [num3, Bool.and_eq_true]
    exact ⟨h.2.1, h.2.2.1, h.2.2.2⟩
theorem gam166 : GamOk Try.prog [(166, Sc 25 num3 ratV)] := .cons ok166 .nil
theorem ok121 : SumOk Try.prog 121 (S 25 (op2 fmul)) := S_ok (E := { gam := [(166, Sc 25 num3 ratV)] }) gam166 20 fun f p => by
  obtain ⟨x, y, _⟩ := p
  exact ((mul121 num3 ratV x y f).trans (ptk_eq _ _ _)).trans (mulVal_eq 25 x y f)
theorem ok135 : SumOk Try.prog 135 (S 25 (op2 fdiv)) := S_ok (E := { gam := [(166, Sc 25 num3 ratV)] }) gam166 20 fun f p => by
  obtain ⟨x, y, _⟩ := p
  exact ((div135 num3 ratV x y f).trans (ptk_eq _ _ _)).trans (divVal_eq 25 x y f)
theorem ok116 : SumOk Try.prog 116 (S 25 (op3 fpart)) := S_ok (E := { gam := [(166, Sc 25 num3 ratV)] }) gam166 20 fun f p => by
  obtain ⟨x, y, z, _⟩ := p
  exact ((part116 num3 ratV x y z f).trans (ptk_eq _ _ _)).trans (partVal_eq 25 x y z f)
end Go.Ab
