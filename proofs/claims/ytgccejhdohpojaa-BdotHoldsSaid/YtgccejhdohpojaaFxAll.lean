/- A part of the proofs: lemmas, no statement of their own; no condition. -/
import Derived.Test.YtgccejhdohpojaaAbTwo
import Derived.Test.YtgccejhdohpojaaProg
import Derived.KernelRfl
import Derived.Lib.ItoaNum
import Derived.Shelf.Small.Bits
import Derived.Shelf.Strconv.Itoa0
import Derived.Shelf.Bits.Mul64
namespace Go.Ab
/-! ### the numbers -/
def most : Int := 4611686018427387904
def num (x : Int) : Bool := decide (x ≤ 4611686018427387904) && decide (-4611686018427387904 ≤ x)
theorem wrap_i64 (z : Int) : IntKind.i64.wrap z = (z + 9223372036854775808) % 18446744073709551616 - 9223372036854775808 := by
  have : IntKind.i64.wrap z = if z % 18446744073709551616 ≥ 9223372036854775808 then z % 18446744073709551616 - 18446744073709551616 else z % 18446744073709551616 := by
    simp [IntKind.wrap, IntKind.bits, IntKind.signed]
  rw [this]
  split <;> omega
theorem wrap_u64 (z : Int) : IntKind.u64.wrap z = z % 18446744073709551616 := by
  simp [IntKind.wrap, IntKind.bits, IntKind.signed]
theorem wrap_i64_id {z : Int} (h1 : -9223372036854775808 ≤ z) (h2 : z < 9223372036854775808) : IntKind.i64.wrap z = z := by rw [wrap_i64]; omega
theorem wrap_u64_id {z : Int} (h1 : 0 ≤ z) (h2 : z < 18446744073709551616) : IntKind.u64.wrap z = z := by rw [wrap_u64]; omega
def fadd (b : Bool) (x y : Int) : Int × Bool := bif !b && (num x && (num y && num (x + y))) then (x + y, false) else (0, true)
def fsub (b : Bool) (x y : Int) : Int × Bool := bif !b && (num x && (num y && num (x - y))) then (x - y, false) else (0, true)
theorem num_iff {x : Int} : num x = true ↔ -4611686018427387904 ≤ x ∧ x ≤ 4611686018427387904 := by simp [num]; omega
theorem tdiv2 (x : Int) : x.tdiv 2 = if 0 ≤ x then x / 2 else -((-x) / 2) := by
  have h2 : Int.sign 2 = 1 := rfl
  rw [Int.tdiv_eq_ediv, h2]
  split <;> split <;> omega
theorem tmod2 (x : Int) : x.tmod 2 = if 0 ≤ x then x % 2 else -((-x) % 2) := by
  have h := Int.tmod_add_mul_tdiv x 2
  rw [tdiv2] at h
  split at h <;> split <;> omega
theorem half_sum {x y : Int} (hx1 : -4611686018427387904 ≤ x) (hx2 : x ≤ 4611686018427387904) (hy1 : -4611686018427387904 ≤ y) (hy2 : y ≤ 4611686018427387904) :
    IntKind.i64.wrap (IntKind.i64.wrap (IntKind.i64.wrap (x.tdiv 2) + IntKind.i64.wrap (y.tdiv 2)) + IntKind.i64.wrap ((IntKind.i64.wrap (x.tmod 2 + y.tmod 2)).tdiv 2)) = x.tdiv 2 + y.tdiv 2 + (x.tmod 2 + y.tmod 2).tdiv 2 := by
  have b1 := tdiv2 x
  have b2 := tdiv2 y
  have b3 := tmod2 x
  have b4 := tmod2 y
  have a1 : -2305843009213693952 ≤ x.tdiv 2 ∧ x.tdiv 2 ≤ 2305843009213693952 := by constructor <;> omega
  have a2 : -2305843009213693952 ≤ y.tdiv 2 ∧ y.tdiv 2 ≤ 2305843009213693952 := by constructor <;> omega
  have a3 : -1 ≤ x.tmod 2 ∧ x.tmod 2 ≤ 1 := by constructor <;> omega
  have a4 : -1 ≤ y.tmod 2 ∧ y.tmod 2 ≤ 1 := by constructor <;> omega
  have b5 := tdiv2 (x.tmod 2 + y.tmod 2)
  rw [wrap_i64_id (z := x.tdiv 2) (by omega) (by omega), wrap_i64_id (z := y.tdiv 2) (by omega) (by omega), wrap_i64_id (z := x.tmod 2 + y.tmod 2) (by omega) (by omega),
    wrap_i64_id (z := (x.tmod 2 + y.tmod 2).tdiv 2) (by omega) (by omega), wrap_i64_id (z := x.tdiv 2 + y.tdiv 2) (by omega) (by omega), wrap_i64_id (by omega) (by omega)]
end Go.Ab
namespace Go.Ab
open Go Go.Proofs
set_option linter.unusedVariables false
set_option linter.unusedSimpArgs false
theorem add124 (x y : Int) (b : Bool) : fnSum Try.prog {gam := []} [] 20 124 [.ptr 0 0, .val (.int .i64 x), .val (.int .i64 y)] (row 25 b) =
  (bif b then some (AV.val (Value.int IntKind.i64 0), [Con.row 25 [AV.val (Value.bool true)]])
   else
     bif bif false then true else decide (x > 4611686018427387904) then
       some (AV.val (Value.int IntKind.i64 0), [Con.row 25 [AV.val (Value.bool true)]])
     else
       bif bif false then true else decide (x < -4611686018427387904) then
         some (AV.val (Value.int IntKind.i64 0), [Con.row 25 [AV.val (Value.bool true)]])
       else
         bif bif false then true else decide (y > 4611686018427387904) then
           some (AV.val (Value.int IntKind.i64 0), [Con.row 25 [AV.val (Value.bool true)]])
         else
           bif !!bif false then true else decide (y < -4611686018427387904) then
             some
               (AV.val (Value.int IntKind.i64 0),
                 [Con.row 25 [AV.val (Value.bool (bif false then true else decide (y < -4611686018427387904)))]])
           else
             bif x == 4611686018427387904 then
               bif !!bif true then y == 4611686018427387904 else false then
                 some (AV.val (Value.int IntKind.i64 0), [Con.row 25 [AV.val (Value.bool true)]])
               else
                 bif bif false then true else decide (IntKind.i64.wrap (x + y) > 4611686018427387904) then
                   some (AV.val (Value.int IntKind.i64 0), [Con.row 25 [AV.val (Value.bool true)]])
                 else
                   bif bif false then true else decide (IntKind.i64.wrap (x + y) < -4611686018427387904) then
                     some (AV.val (Value.int IntKind.i64 0), [Con.row 25 [AV.val (Value.bool true)]])
                   else
                     some
                       (AV.val (Value.int IntKind.i64 (IntKind.i64.wrap (x + y))),
                         [Con.row 25 [AV.val (Value.bool (bif false then true else decide (y < -4611686018427387904)))]])
             else
               bif bif false then true else decide (IntKind.i64.wrap (x + y) > 4611686018427387904) then
                 some (AV.val (Value.int IntKind.i64 0), [Con.row 25 [AV.val (Value.bool true)]])
               else
                 bif bif false then true else decide (IntKind.i64.wrap (x + y) < -4611686018427387904) then
                   some (AV.val (Value.int IntKind.i64 0), [Con.row 25 [AV.val (Value.bool true)]])
                 else
                   some
                     (AV.val (Value.int IntKind.i64 (IntKind.i64.wrap (x + y))),
                       [Con.row 25 [AV.val (Value.bool (bif false then true else decide (y < -4611686018427387904)))]])) := by kernel_rfl
theorem add125 (x y : Int) (b : Bool) : fnSum Try.prog {gam := []} [] 20 125 [.ptr 0 0, .val (.int .i64 x), .val (.int .i64 y)] (row 27 b) =
  (bif decide (x ≥ -4611686018427387904) then
     bif !bif true then decide (x ≤ 4611686018427387904) else false then
       bif decide (y ≥ -4611686018427387904) then
         bif !bif true then decide (y ≤ 4611686018427387904) else false then
           some (AV.val (Value.int IntKind.i64 0), [Con.row 27 [AV.val (Value.bool true)]])
         else some (AV.val (Value.int IntKind.i64 0), [Con.row 27 [AV.val (Value.bool true)]])
       else some (AV.val (Value.int IntKind.i64 0), [Con.row 27 [AV.val (Value.bool true)]])
     else
       bif decide (y ≥ -4611686018427387904) then
         bif !bif true then decide (y ≤ 4611686018427387904) else false then
           some (AV.val (Value.int IntKind.i64 0), [Con.row 27 [AV.val (Value.bool true)]])
         else
           bif !!b then some (AV.val (Value.int IntKind.i64 0), [Con.row 27 [AV.val (Value.bool b)]])
           else
             bif
                 decide
                   (IntKind.i64.wrap
                       (IntKind.i64.wrap (IntKind.i64.wrap (x.tdiv 2) + IntKind.i64.wrap (y.tdiv 2)) +
                         IntKind.i64.wrap ((IntKind.i64.wrap (x.tmod 2 + y.tmod 2)).tdiv 2)) >
                     2305843009213693952) then
               some (AV.val (Value.int IntKind.i64 0), [Con.row 27 [AV.val (Value.bool true)]])
             else
               bif
                   bif false then true
                   else
                     decide
                       (IntKind.i64.wrap
                           (IntKind.i64.wrap (IntKind.i64.wrap (x.tdiv 2) + IntKind.i64.wrap (y.tdiv 2)) +
                             IntKind.i64.wrap ((IntKind.i64.wrap (x.tmod 2 + y.tmod 2)).tdiv 2)) <
                         -2305843009213693952) then
                 some (AV.val (Value.int IntKind.i64 0), [Con.row 27 [AV.val (Value.bool true)]])
               else
                 bif decide (IntKind.i64.wrap (x + y) ≥ -4611686018427387904) then
                   bif
                       bif false then true
                       else !bif true then decide (IntKind.i64.wrap (x + y) ≤ 4611686018427387904) else false then
                     some (AV.val (Value.int IntKind.i64 0), [Con.row 27 [AV.val (Value.bool true)]])
                   else
                     some (AV.val (Value.int IntKind.i64 (IntKind.i64.wrap (x + y))), [Con.row 27 [AV.val (Value.bool b)]])
                 else some (AV.val (Value.int IntKind.i64 0), [Con.row 27 [AV.val (Value.bool true)]])
       else some (AV.val (Value.int IntKind.i64 0), [Con.row 27 [AV.val (Value.bool true)]])
   else
     bif decide (y ≥ -4611686018427387904) then
       bif !bif true then decide (y ≤ 4611686018427387904) else false then
         some (AV.val (Value.int IntKind.i64 0), [Con.row 27 [AV.val (Value.bool true)]])
       else some (AV.val (Value.int IntKind.i64 0), [Con.row 27 [AV.val (Value.bool true)]])
     else some (AV.val (Value.int IntKind.i64 0), [Con.row 27 [AV.val (Value.bool true)]])) := by kernel_rfl
theorem sub127 (o : Bool → Int × Int × Unit → Int × Bool) (x y : Int) (b : Bool) : fnSum Try.prog {gam := [(124, S 25 o)]} [] 20 127 [.ptr 0 0, .val (.int .i64 x), .val (.int .i64 y)] (row 25 b) =
  (bif b then some (AV.val (Value.int IntKind.i64 0), [Con.row 25 [AV.val (Value.bool true)]])
   else
     bif bif false then true else decide (x > 4611686018427387904) then
       some (AV.val (Value.int IntKind.i64 0), [Con.row 25 [AV.val (Value.bool true)]])
     else
       bif bif false then true else decide (x < -4611686018427387904) then
         some (AV.val (Value.int IntKind.i64 0), [Con.row 25 [AV.val (Value.bool true)]])
       else
         bif bif false then true else decide (y > 4611686018427387904) then
           some (AV.val (Value.int IntKind.i64 0), [Con.row 25 [AV.val (Value.bool true)]])
         else
           bif !!bif false then true else decide (y < -4611686018427387904) then
             some
               (AV.val (Value.int IntKind.i64 0),
                 [Con.row 25 [AV.val (Value.bool (bif false then true else decide (y < -4611686018427387904)))]])
           else
             some
               (AV.val
                   (Value.int IntKind.i64
                     (o (bif false then true else decide (y < -4611686018427387904))
                         (x, IntKind.i64.wrap (0 - y), ())).fst),
                 [Con.row 25
                     [AV.val
                         (Value.bool
                           (o (bif false then true else decide (y < -4611686018427387904))
                               (x, IntKind.i64.wrap (0 - y), ())).snd)]])) := by kernel_rfl
theorem sub128 (o : Bool → Int × Int × Unit → Int × Bool) (x y : Int) (b : Bool) : fnSum Try.prog {gam := [(125, S 27 o)]} [] 20 128 [.ptr 0 0, .val (.int .i64 x), .val (.int .i64 y)] (row 27 b) =
  (bif decide (x ≥ -4611686018427387904) then
     bif !bif true then decide (x ≤ 4611686018427387904) else false then
       bif decide (y ≥ -4611686018427387904) then
         bif !bif true then decide (y ≤ 4611686018427387904) else false then
           some (AV.val (Value.int IntKind.i64 0), [Con.row 27 [AV.val (Value.bool true)]])
         else some (AV.val (Value.int IntKind.i64 0), [Con.row 27 [AV.val (Value.bool true)]])
       else some (AV.val (Value.int IntKind.i64 0), [Con.row 27 [AV.val (Value.bool true)]])
     else
       bif decide (y ≥ -4611686018427387904) then
         bif !bif true then decide (y ≤ 4611686018427387904) else false then
           some (AV.val (Value.int IntKind.i64 0), [Con.row 27 [AV.val (Value.bool true)]])
         else
           bif !!b then some (AV.val (Value.int IntKind.i64 0), [Con.row 27 [AV.val (Value.bool b)]])
           else
             some
               (AV.val (Value.int IntKind.i64 (o b (x, IntKind.i64.wrap (0 - y), ())).fst),
                 [Con.row 27 [AV.val (Value.bool (o b (x, IntKind.i64.wrap (0 - y), ())).snd)]])
       else some (AV.val (Value.int IntKind.i64 0), [Con.row 27 [AV.val (Value.bool true)]])
   else
     bif decide (y ≥ -4611686018427387904) then
       bif !bif true then decide (y ≤ 4611686018427387904) else false then
         some (AV.val (Value.int IntKind.i64 0), [Con.row 27 [AV.val (Value.bool true)]])
       else some (AV.val (Value.int IntKind.i64 0), [Con.row 27 [AV.val (Value.bool true)]])
     else some (AV.val (Value.int IntKind.i64 0), [Con.row 27 [AV.val (Value.bool true)]])) := by kernel_rfl
theorem add124_is (x y : Int) (b : Bool) : fnSum Try.prog {gam := []} [] 20 124 [.ptr 0 0, .val (.int .i64 x), .val (.int .i64 y)] (row 25 b) = some (.val (.int .i64 (fadd b x y).1), row 25 (fadd b x y).2) := by
  rw [add124]
  unfold fadd num row
  cases b
  · simp only [cond_false, Bool.not_false, Bool.true_and, cond_true]
    by_cases h1 : x > 4611686018427387904
    · have : decide (x ≤ 4611686018427387904) = false := by simp; omega
      simp [h1, this]
    by_cases h2 : x < -4611686018427387904
    · have : decide (-4611686018427387904 ≤ x) = false := by simp; omega
      simp [h1, h2, this]
    by_cases h3 : y > 4611686018427387904
    · have : decide (y ≤ 4611686018427387904) = false := by simp; omega
      simp [h1, h2, h3, this]
    by_cases h4 : y < -4611686018427387904
    · have : decide (-4611686018427387904 ≤ y) = false := by simp; omega
      simp [h1, h2, h3, h4, this]
    have e1 : decide (x ≤ 4611686018427387904) = true := by simp; omega
    have e2 : decide (-4611686018427387904 ≤ x) = true := by simp; omega
    have e3 : decide (y ≤ 4611686018427387904) = true := by simp; omega
    have e4 : decide (-4611686018427387904 ≤ y) = true := by simp; omega
    simp only [h1, h2, h3, h4, e1, e2, e3, e4, decide_false, cond_false, Bool.true_and, Bool.not_not, cond_true]
    by_cases h5 : x = 4611686018427387904 ∧ y = 4611686018427387904
    · simp [h5.1, h5.2]
    · rw [wrap_i64_id (by omega) (by omega)]
      have t : (x == 4611686018427387904 && y == 4611686018427387904) = false := by simp; omega
      by_cases h6 : x + y > 4611686018427387904
      · have e6 : decide (x + y ≤ 4611686018427387904) = false := by simp; omega
        simp only [h6, e6, Bool.false_and, decide_true, cond_true, cond_false]
        cases (x == 4611686018427387904) <;> cases (y == 4611686018427387904) <;> rfl
      · have e6 : decide (x + y ≤ 4611686018427387904) = true := by simp; omega
        by_cases h7 : x + y < -4611686018427387904
        · have e7 : decide (-4611686018427387904 ≤ x + y) = false := by simp; omega
          simp only [h6, h7, e6, e7, Bool.false_and, Bool.and_false, decide_true, decide_false, cond_true, cond_false]
          cases (x == 4611686018427387904) <;> cases (y == 4611686018427387904) <;> rfl
        · have e7 : decide (-4611686018427387904 ≤ x + y) = true := by simp; omega
          simp only [h6, h7, e6, e7, Bool.and_self, decide_true, decide_false, cond_true, cond_false]
          revert t
          cases (x == 4611686018427387904) <;> cases (y == 4611686018427387904) <;> simp
  · rfl
theorem half_range {x y : Int} (hx1 : -4611686018427387904 ≤ x) (hx2 : x ≤ 4611686018427387904) (hy1 : -4611686018427387904 ≤ y) (hy2 : y ≤ 4611686018427387904) :
    (x.tdiv 2 + y.tdiv 2 + (x.tmod 2 + y.tmod 2).tdiv 2 > 2305843009213693952 → x + y > 4611686018427387904) ∧ (x.tdiv 2 + y.tdiv 2 + (x.tmod 2 + y.tmod 2).tdiv 2 < -2305843009213693952 → x + y < -4611686018427387904) ∧
    (x + y = 9223372036854775808 → x.tdiv 2 + y.tdiv 2 + (x.tmod 2 + y.tmod 2).tdiv 2 > 2305843009213693952) := by
  have b1 := tdiv2 x
  have b2 := tdiv2 y
  have b3 := tmod2 x
  have b4 := tmod2 y
  have b5 := tdiv2 (x.tmod 2 + y.tmod 2)
  refine ⟨fun h => ?_, fun h => ?_, fun h => ?_⟩ <;> omega
theorem add125_is (x y : Int) (b : Bool) : fnSum Try.prog {gam := []} [] 20 125 [.ptr 0 0, .val (.int .i64 x), .val (.int .i64 y)] (row 27 b) = some (.val (.int .i64 (fadd b x y).1), row 27 (fadd b x y).2) := by
  rw [add125]
  unfold fadd num row
  by_cases h1 : x > 4611686018427387904
  · have : decide (x ≤ 4611686018427387904) = false := by simp; omega
    simp only [this, Bool.false_and, Bool.and_false, cond_false, Bool.cond_false_right, Bool.not_true]
    cases decide (x ≥ -4611686018427387904) <;> cases decide (y ≥ -4611686018427387904) <;> cases decide (y ≤ 4611686018427387904) <;> rfl
  by_cases h2 : x < -4611686018427387904
  · have e : decide (-4611686018427387904 ≤ x) = false := by simp; omega
    have e' : decide (x ≥ -4611686018427387904) = false := e
    simp only [e, e', Bool.false_and, Bool.and_false, cond_false]
    cases decide (y ≥ -4611686018427387904) <;> cases decide (y ≤ 4611686018427387904) <;> rfl
  have e1 : decide (x ≤ 4611686018427387904) = true := by simp; omega
  have e2 : decide (-4611686018427387904 ≤ x) = true := by simp; omega
  have e2' : decide (x ≥ -4611686018427387904) = true := e2
  by_cases h3 : y > 4611686018427387904
  · have : decide (y ≤ 4611686018427387904) = false := by simp; omega
    simp only [e1, e2, e2', this, Bool.false_and, Bool.and_false, cond_false, cond_true, Bool.not_true]
    cases decide (y ≥ -4611686018427387904) <;> rfl
  by_cases h4 : y < -4611686018427387904
  · have e : decide (-4611686018427387904 ≤ y) = false := by simp; omega
    have e' : decide (y ≥ -4611686018427387904) = false := e
    simp only [e1, e2, e2', e, e', Bool.false_and, Bool.and_false, cond_false, cond_true, Bool.not_true]
  have e3 : decide (y ≤ 4611686018427387904) = true := by simp; omega
  have e4 : decide (-4611686018427387904 ≤ y) = true := by simp; omega
  have e4' : decide (y ≥ -4611686018427387904) = true := e4
  simp only [e1, e2, e2', e3, e4, e4', Bool.true_and, cond_true, cond_false, Bool.not_true, Bool.not_not]
  cases b
  · rw [half_sum (by omega) (by omega) (by omega) (by omega)]
    obtain ⟨r1, r2, r3⟩ := half_range (x := x) (y := y) (by omega) (by omega) (by omega) (by omega)
    by_cases h5 : x + y > 4611686018427387904
    · have e5 : decide (x + y ≤ 4611686018427387904) = false := by simp; omega
      simp only [e5, Bool.false_and, Bool.and_false, cond_false]
      by_cases h6 : x.tdiv 2 + y.tdiv 2 + (x.tmod 2 + y.tmod 2).tdiv 2 > 2305843009213693952
      · simp only [h6, decide_true, cond_true]
      · by_cases h7 : x.tdiv 2 + y.tdiv 2 + (x.tmod 2 + y.tmod 2).tdiv 2 < -2305843009213693952
        · simp only [h6, h7, decide_true, decide_false, cond_true, cond_false]
        · have e8 : IntKind.i64.wrap (x + y) = x + y := wrap_i64_id (by omega) (by omega)
          rw [e8]
          simp only [h6, h7, e5, decide_false, cond_false, Bool.not_false, cond_true]
          cases decide (x + y ≥ -4611686018427387904) <;> rfl
    · have e5 : decide (x + y ≤ 4611686018427387904) = true := by simp; omega
      have h6 : ¬ (x.tdiv 2 + y.tdiv 2 + (x.tmod 2 + y.tmod 2).tdiv 2 > 2305843009213693952) := fun h => h5 (r1 h)
      have e8 : IntKind.i64.wrap (x + y) = x + y := wrap_i64_id (by omega) (by omega)
      rw [e8]
      by_cases h7 : x + y < -4611686018427387904
      · have e7 : decide (-4611686018427387904 ≤ x + y) = false := by simp; omega
        have e7' : decide (x + y ≥ -4611686018427387904) = false := e7
        simp only [h6, e5, e7, e7', decide_false, cond_false, Bool.false_and, Bool.and_false]
        cases decide (x.tdiv 2 + y.tdiv 2 + (x.tmod 2 + y.tmod 2).tdiv 2 < -2305843009213693952) <;> rfl
      · have e7 : decide (-4611686018427387904 ≤ x + y) = true := by simp; omega
        have e7' : decide (x + y ≥ -4611686018427387904) = true := e7
        have h9 : ¬ (x.tdiv 2 + y.tdiv 2 + (x.tmod 2 + y.tmod 2).tdiv 2 < -2305843009213693952) := fun h => h7 (r2 h)
        simp only [h6, h9, e5, e7, e7', decide_false, cond_false, cond_true, Bool.not_true, Bool.and_self, Bool.not_false]
  · rfl
theorem fsub_add (b : Bool) (x y : Int) (hx1 : -4611686018427387904 ≤ x) (hx2 : x ≤ 4611686018427387904) (hy1 : -4611686018427387904 ≤ y) (hy2 : y ≤ 4611686018427387904) : fadd b x (IntKind.i64.wrap (0 - y)) = fsub b x y := by
  rw [wrap_i64_id (by omega) (by omega)]
  unfold fadd fsub
  have : num (0 - y) = num y := by
    have h1 : num y = true := num_iff.2 ⟨hy1, hy2⟩
    rw [h1]
    exact num_iff.2 (by omega)
  rw [this, show x + (0 - y) = x - y by omega]
theorem sub127_is (x y : Int) (b : Bool) : fnSum Try.prog {gam := [(124, S 25 (op2 fadd))]} [] 20 127 [.ptr 0 0, .val (.int .i64 x), .val (.int .i64 y)] (row 25 b) = some (.val (.int .i64 (fsub b x y).1), row 25 (fsub b x y).2) := by
  rw [sub127]
  cases b
  · by_cases h1 : x > 4611686018427387904
    · have : num x = false := by simp [num]; omega
      simp [h1, fsub, this, row]
    by_cases h2 : x < -4611686018427387904
    · have : num x = false := by simp [num]; omega
      simp [h1, h2, fsub, this, row]
    by_cases h3 : y > 4611686018427387904
    · have : num y = false := by simp [num]; omega
      simp [h1, h2, h3, fsub, this, row]
    by_cases h4 : y < -4611686018427387904
    · have : num y = false := by simp [num]; omega
      simp [h1, h2, h3, h4, fsub, this, row]
    simp only [h1, h2, h3, h4, decide_false, cond_false, Bool.not_not, op2, row]
    rw [fsub_add false x y (by omega) (by omega) (by omega) (by omega)]
  · rfl
theorem sub128_is (x y : Int) (b : Bool) : fnSum Try.prog {gam := [(125, S 27 (op2 fadd))]} [] 20 128 [.ptr 0 0, .val (.int .i64 x), .val (.int .i64 y)] (row 27 b) = some (.val (.int .i64 (fsub b x y).1), row 27 (fsub b x y).2) := by
  rw [sub128]
  by_cases h1 : x > 4611686018427387904
  · have : num x = false := by simp [num]; omega
    have e : decide (x ≤ 4611686018427387904) = false := by simp; omega
    simp only [e, fsub, this, Bool.false_and, Bool.and_false, cond_false, Bool.not_true, row]
    cases decide (x ≥ -4611686018427387904) <;> cases decide (y ≥ -4611686018427387904) <;> cases decide (y ≤ 4611686018427387904) <;> rfl
  by_cases h2 : x < -4611686018427387904
  · have : num x = false := by simp [num]; omega
    have e : decide (x ≥ -4611686018427387904) = false := by simp; omega
    simp only [e, fsub, this, Bool.false_and, Bool.and_false, cond_false, row]
    cases decide (y ≥ -4611686018427387904) <;> cases decide (y ≤ 4611686018427387904) <;> rfl
  have e1 : decide (x ≤ 4611686018427387904) = true := by simp; omega
  have e2 : decide (x ≥ -4611686018427387904) = true := by simp; omega
  by_cases h3 : y > 4611686018427387904
  · have : num y = false := by simp [num]; omega
    have e : decide (y ≤ 4611686018427387904) = false := by simp; omega
    simp only [e1, e2, e, fsub, this, Bool.false_and, Bool.and_false, cond_false, cond_true, Bool.not_true, row]
    cases decide (y ≥ -4611686018427387904) <;> rfl
  by_cases h4 : y < -4611686018427387904
  · have : num y = false := by simp [num]; omega
    have e : decide (y ≥ -4611686018427387904) = false := by simp; omega
    simp only [e1, e2, e, fsub, this, Bool.false_and, Bool.and_false, cond_false, cond_true, Bool.not_true, row]
  have e3 : decide (y ≤ 4611686018427387904) = true := by simp; omega
  have e4 : decide (y ≥ -4611686018427387904) = true := by simp; omega
  simp only [e1, e2, e3, e4, cond_true, cond_false, Bool.not_true, Bool.not_not, op2, row]
  rw [fsub_add b x y (by omega) (by omega) (by omega) (by omega)]
  cases b <;> rfl

theorem ok124 : SumOk Try.prog 124 (S 25 (op2 fadd)) := S_ok (E := { gam := [] }) GamOk.nil 20 fun b a => add124_is a.1 a.2.1 b
theorem ok125 : SumOk Try.prog 125 (S 27 (op2 fadd)) := S_ok (E := { gam := [] }) GamOk.nil 20 fun b a => add125_is a.1 a.2.1 b
theorem ok127 : SumOk Try.prog 127 (S 25 (op2 fsub)) := S_ok (E := { gam := [(124, S 25 (op2 fadd))] }) (.cons ok124 .nil) 20 fun b a => sub127_is a.1 a.2.1 b
theorem ok128 : SumOk Try.prog 128 (S 27 (op2 fsub)) := S_ok (E := { gam := [(125, S 27 (op2 fadd))] }) (.cons ok125 .nil) 20 fun b a => sub128_is a.1 a.2.1 b
end Go.Ab
/- Long division by halves of a word: the laws of numbers. -/
namespace Go.Ab
/-- One digit: what the loop that guesses keeps. -/
def dpre : List Int → Bool
  | [y1, y0, u, q, r] => decide (2147483648 ≤ y1 ∧ y1 < 4294967296 ∧ 0 ≤ y0 ∧ y0 < 4294967296 ∧ 0 ≤ u ∧ u < 4294967296 ∧ 0 ≤ q ∧ q < 18446744073709551616 ∧ 0 ≤ r ∧ r < 4294967296 ∧ q * y1 + r < y1 * 4294967296 + y0 ∧ u + r * 4294967296 < q * y0 + y1 * 4294967296 + y0)
  | _ => false
def digit (y1 y0 u U : Int) : Int := (U * 4294967296 + u) / (y1 * 4294967296 + y0)
def dpostV (Q R : Int → Int → Int → Int → Int → Int) : List Int → List Int
  | [y1, y0, u, q, r] => [y1, y0, u, Q y1 y0 u q r, R y1 y0 u q r]
  | l => l
def dpost : List Int → List Int := dpostV (fun y1 y0 u q r => digit y1 y0 u (q * y1 + r)) (fun y1 y0 u q r => q * y1 + r - digit y1 y0 u (q * y1 + r) * y1)
theorem le_digit {y1 y0 u U q : Int} (hy : 0 < y1 * 4294967296 + y0) : q ≤ digit y1 y0 u U ↔ q * y1 * 4294967296 + q * y0 ≤ U * 4294967296 + u := by
  unfold digit
  rw [Int.le_ediv_iff_mul_le hy, Int.mul_add, ← Int.mul_assoc]
theorem digit_of {y1 y0 u U q : Int} (hy : 0 < y1 * 4294967296 + y0) (h1 : q * y1 * 4294967296 + q * y0 ≤ U * 4294967296 + u) (h2 : U * 4294967296 + u < q * y1 * 4294967296 + q * y0 + y1 * 4294967296 + y0) : digit y1 y0 u U = q := by
  have a := (le_digit (q := q) (u := u) (U := U) hy).2 h1
  have b : ¬ (q + 1 ≤ digit y1 y0 u U) := by
    rw [le_digit hy, Int.add_mul, Int.add_mul, Int.add_mul]
    omega
  omega
/-- The loop's step, told of its tests. -/
theorem dstep {y1 y0 u q r : Int} (h : dpre [y1, y0, u, q, r] = true) :
    (q ≥ 4294967296 ∨ q * y0 > 4294967296 * r + u → 1 ≤ q ∧ (r + y1 ≥ 4294967296 → dpost [y1, y0, u, q, r] = [y1, y0, u, q - 1, r + y1]) ∧ (r + y1 < 4294967296 → dpre [y1, y0, u, q - 1, r + y1] = true ∧ dpost [y1, y0, u, q - 1, r + y1] = dpost [y1, y0, u, q, r])) ∧
    (q < 4294967296 → q * y0 ≤ 4294967296 * r + u → dpost [y1, y0, u, q, r] = [y1, y0, u, q, r]) := by
  simp only [dpre, decide_eq_true_eq] at h
  obtain ⟨a1, a2, a3, a4, a5, a6, a7, a8, a9, a10, a11, a12⟩ := h
  have hy : 0 < y1 * 4294967296 + y0 := by omega
  have e1 : (q - 1) * y1 = q * y1 - y1 := by rw [Int.sub_mul, Int.one_mul]
  have e2 : (q - 1) * y0 = q * y0 - y0 := by rw [Int.sub_mul, Int.one_mul]
  refine ⟨fun hc => ?_, fun hq hc => ?_⟩
  · have hq1 : 1 ≤ q := by
      rcases hc with hc | hc
      · omega
      · rcases Int.lt_or_le 0 q with h | h
        · omega
        · have : q = 0 := by omega
          subst this
          omega
    -- the guess is too great
    have hgt : 4294967296 * r + u < q * y0 := by
      rcases hc with hc | hc
      · have b1 : 4294967296 * y1 ≤ q * y1 := Int.mul_le_mul_of_nonneg_right hc (by omega)
        have b2 : 4294967296 * y0 ≤ q * y0 := Int.mul_le_mul_of_nonneg_right hc (by omega)
        omega
      · omega
    refine ⟨hq1, fun hr => ?_, fun hr => ⟨?_, ?_⟩⟩
    · -- it ends
      have hlt : (q - 1) * y1 < 4294967296 * y1 := by rw [e1]; omega
      have hq : q - 1 < 4294967296 := Int.lt_of_mul_lt_mul_right hlt (by omega)
      have b : (q - 1) * y0 ≤ 4294967296 * 4294967296 := Int.le_trans (Int.mul_le_mul_of_nonneg_right (by omega) a3) (Int.mul_le_mul_of_nonneg_left (by omega) (by omega))
      have hd : digit y1 y0 u (q * y1 + r) = q - 1 := by
        refine digit_of hy ?_ ?_ <;> rw [e1, e2] <;> omega
      simp only [dpost, dpostV, hd, e1]
      rw [show q * y1 + r - (q * y1 - y1) = r + y1 by omega]
    · simp only [dpre, decide_eq_true_eq, e1, e2]
      omega
    · simp only [dpost, dpostV, e1]
      rw [show q * y1 - y1 + (r + y1) = q * y1 + r by omega]
  · have hd : digit y1 y0 u (q * y1 + r) = q := digit_of hy (by omega) (by omega)
    simp only [dpost, dpostV, hd]
    rw [show q * y1 + r - q * y1 = r by omega]
end Go.Ab
/- math/bits.Div64: its two loops. -/
namespace Go.Ab
open Go Go.Proofs
def blkOf (f : Func) (id : Nat) : Code := (((blocksOf (f.body.getD .skip)).find? (fun p => Nat.beq p.1 id)).getD (0, .skip)).2
def loopOf : Code → Code | .loop c => c | c => c
def d64a : Slots := [(9, .int .u64), (10, .int .u64), (13, .int .u64), (15, .int .u64), (16, .int .u64)]
def d64b : Slots := [(9, .int .u64), (10, .int .u64), (14, .int .u64), (18, .int .u64), (16, .int .u64)]
def dtree (N id : Nat) (sl : Slots) (G : List Nat) (y1 y0 u q r : Int) (x : Nat → AV) (heap : Hp) (lo hi step : Nat) : Option (Ex × St) :=
  bif decide (q ≥ 4294967296) then
    bif decide (IntKind.u64.wrap (r + y1) ≥ 4294967296) then some (.exit id, lpSt N sl G [y1, y0, u, IntKind.u64.wrap (q - 1), IntKind.u64.wrap (r + y1)] x heap lo hi step)
    else some (.normal, lpSt N sl G [y1, y0, u, IntKind.u64.wrap (q - 1), IntKind.u64.wrap (r + y1)] x heap lo hi step)
  else bif decide (IntKind.u64.wrap (q * y0) > IntKind.u64.wrap (IntKind.u64.wrap (4294967296 * r) + u)) then
    bif decide (IntKind.u64.wrap (r + y1) ≥ 4294967296) then some (.exit id, lpSt N sl G [y1, y0, u, IntKind.u64.wrap (q - 1), IntKind.u64.wrap (r + y1)] x heap lo hi step)
    else some (.normal, lpSt N sl G [y1, y0, u, IntKind.u64.wrap (q - 1), IntKind.u64.wrap (r + y1)] x heap lo hi step)
  else some (.exit id, lpSt N sl G [y1, y0, u, q, r] x heap lo hi step)
theorem round0 (y1 y0 u q r : Int) (x : Nat → AV) (heap : Hp) (lo hi step : Nat) :
    run Try.prog (callN Try.prog { gam := [] } 1) 135 {} [] 50 (Ex × St) (loopOf (blkOf Try.f183 0)) (lpSt 135 d64a (nums 67 19) [y1, y0, u, q, r] x heap lo hi step) (fun e s' => some (e, maskSt (nums 67 19) s')) =
      dtree 135 0 d64a (nums 67 19) y1 y0 u q r x heap lo hi step := by kernel_rfl
theorem round2 (y1 y0 u q r : Int) (x : Nat → AV) (heap : Hp) (lo hi step : Nat) :
    run Try.prog (callN Try.prog { gam := [] } 1) 135 {} [] 50 (Ex × St) (loopOf (blkOf Try.f183 2)) (lpSt 135 d64b (nums 102 19) [y1, y0, u, q, r] x heap lo hi step) (fun e s' => some (e, maskSt (nums 102 19) s')) =
      dtree 135 2 d64b (nums 102 19) y1 y0 u q r x heap lo hi step := by kernel_rfl
theorem dtree_ok {N id : Nat} {sl : Slots} {G : List Nat} (hsl : shLen sl = 5) {F : List Int → (Nat → AV) → Hp → Nat → Nat → Nat → Option (Ex × St)}
    (hF : ∀ y1 y0 u q r x heap lo hi step, F [y1, y0, u, q, r] x heap lo hi step = dtree N id sl G y1 y0 u q r x heap lo hi step) :
    ∀ xs, xs.length = shLen sl → dpre xs = true → ∀ x heap lo hi step,
      (∃ ys, ys.length = shLen sl ∧ dpre ys = true ∧ (ys.getD 3 0).toNat < (xs.getD 3 0).toNat ∧ dpost ys = dpost xs ∧ F xs x heap lo hi step = some (.normal, lpSt N sl G ys x heap lo hi step)) ∨
      F xs x heap lo hi step = some (.exit id, lpSt N sl G (dpost xs) x heap lo hi step) := by
  intro xs hlen hp x heap lo hi step
  rw [hsl] at hlen
  obtain ⟨y1, y0, u, q, r, rfl⟩ : ∃ y1 y0 u q r, xs = [y1, y0, u, q, r] := by
    match xs, hlen with
    | [a, b, c, d, e], _ => exact ⟨a, b, c, d, e, rfl⟩
  obtain ⟨hs, he⟩ := dstep hp
  have hp' := hp
  simp only [dpre, decide_eq_true_eq] at hp'
  obtain ⟨a1, a2, a3, a4, a5, a6, a7, a8, a9, a10, a11, a12⟩ := hp'
  rw [hF]
  unfold dtree
  have w1 : IntKind.u64.wrap (r + y1) = r + y1 := wrap_u64_id (by omega) (by omega)
  rw [w1]
  have more : (q ≥ 4294967296 ∨ q * y0 > 4294967296 * r + u) → (∃ ys, ys.length = shLen sl ∧ dpre ys = true ∧ (ys.getD 3 0).toNat < ([y1, y0, u, q, r].getD 3 0).toNat ∧ dpost ys = dpost [y1, y0, u, q, r] ∧ (bif decide (r + y1 ≥ 4294967296) then some (Ex.exit id, lpSt N sl G [y1, y0, u, IntKind.u64.wrap (q - 1), r + y1] x heap lo hi step)
    else some (.normal, lpSt N sl G [y1, y0, u, IntKind.u64.wrap (q - 1), r + y1] x heap lo hi step)) = some (.normal, lpSt N sl G ys x heap lo hi step)) ∨ (bif decide (r + y1 ≥ 4294967296) then some (Ex.exit id, lpSt N sl G [y1, y0, u, IntKind.u64.wrap (q - 1), r + y1] x heap lo hi step)
    else some (.normal, lpSt N sl G [y1, y0, u, IntKind.u64.wrap (q - 1), r + y1] x heap lo hi step)) = some (.exit id, lpSt N sl G (dpost [y1, y0, u, q, r]) x heap lo hi step) := by
    intro hc
    obtain ⟨h1, h2, h3⟩ := hs hc
    rw [wrap_u64_id (z := q - 1) (by omega) (by omega)]
    by_cases hr : r + y1 ≥ 4294967296
    · refine .inr ?_
      simp only [hr, decide_true, cond_true]
      rw [h2 hr]
    · refine .inl ⟨[y1, y0, u, q - 1, r + y1], by rw [hsl]; rfl, (h3 (by omega)).1, ?_, (h3 (by omega)).2, ?_⟩
      · simp only [List.getD_cons_succ, List.getD_cons_zero]; omega
      · simp only [hr, decide_false, cond_false]
  by_cases hq : q ≥ 4294967296
  · simp only [hq, decide_true, cond_true]
    exact more (.inl hq)
  · simp only [hq, decide_false, cond_false]
    have b1 : q * y0 ≤ 4294967295 * 4294967295 := Int.le_trans (Int.mul_le_mul_of_nonneg_right (by omega) a3) (Int.mul_le_mul_of_nonneg_left (by omega) (by omega))
    have b0 : 0 ≤ q * y0 := Int.mul_nonneg a7 a3
    rw [wrap_u64_id (z := q * y0) b0 (by omega), wrap_u64_id (z := 4294967296 * r) (by omega) (by omega), wrap_u64_id (z := 4294967296 * r + u) (by omega) (by omega)]
    by_cases hc : q * y0 > 4294967296 * r + u
    · simp only [hc, decide_true, cond_true]
      exact more (.inr hc)
    · simp only [hc, decide_false, cond_false]
      refine .inr ?_
      rw [he (by omega) (by omega)]
def d64h : Hints := [(0, lpHint 135 d64a (nums 67 19) dpre dpost), (2, lpHint 135 d64b (nums 102 19) dpre dpost)]
theorem d64blocks : blocksOf (Try.f183.body.getD .skip) = [(0, .loop (loopOf (blkOf Try.f183 0))), (1, blkOf Try.f183 1), (2, .loop (loopOf (blkOf Try.f183 2))), (3, blkOf Try.f183 3)] := by kernel_rfl
theorem d64fit : ∀ fn c, Try.prog.funcs[183]? = some fn → fn.body = some c → HFit Try.prog fn.ntmps d64h c := by
  intro fn c hf hb
  rw [Try.func183] at hf
  cases hf
  have hn : Try.f183.ntmps = 135 := by kernel_rfl
  have hc : Try.f183.body.getD .skip = c := by rw [hb]; rfl
  rw [hn]
  have hL := d64blocks
  rw [hc] at hL
  have hcall : ∀ β, CallOk Try.prog (callN Try.prog { gam := [] } 1 β) := callN_ok GamOk.nil 1
  refine HFit.of fun p hp h hh s s' hs => ?_
  rw [hL] at hp
  simp only [List.mem_cons, List.not_mem_nil, or_false] at hp
  rcases hp with rfl | rfl | rfl | rfl
  · have : h = lpHint 135 d64a (nums 67 19) dpre dpost := (Option.some.inj hh).symm
    subst this
    exact lp_ok hcall (F := 50) (wy := {}) (fun xs => (xs.getD 3 0).toNat) (dtree_ok rfl (F := fun xs x heap lo hi step => run Try.prog (callN Try.prog { gam := [] } 1) 135 {} [] 50 (Ex × St) (loopOf (blkOf Try.f183 0)) (lpSt 135 d64a (nums 67 19) xs x heap lo hi step) (fun e s' => some (e, maskSt (nums 67 19) s'))) round0) s s' hs
  · simp [findH, d64h] at hh
  · have : h = lpHint 135 d64b (nums 102 19) dpre dpost := (Option.some.inj hh).symm
    subst this
    exact lp_ok hcall (F := 50) (wy := {}) (fun xs => (xs.getD 3 0).toNat) (dtree_ok rfl (F := fun xs x heap lo hi step => run Try.prog (callN Try.prog { gam := [] } 1) 135 {} [] 50 (Ex × St) (loopOf (blkOf Try.f183 2)) (lpSt 135 d64b (nums 102 19) xs x heap lo hi step) (fun e s' => some (e, maskSt (nums 102 19) s'))) round2) s s' hs
  · simp [findH, d64h] at hh
end Go.Ab
/- math/bits.Div64: what it computes, on the way that its text goes. -/
namespace Go.Ab
open Go Go.Proofs
def shI (a s : Int) : Int := IntKind.u64.wrap (a * 2 ^ min s.toNat IntKind.u64.bits)
def srI (a s : Int) : Int := a.fdiv (2 ^ min s.toNat IntKind.u64.bits)
def orI (a b : Int) : Int := IntKind.u64.wrap (((BitVec.ofInt IntKind.u64.bits a ||| BitVec.ofInt IntKind.u64.bits b).toNat : Nat) : Int)
def andI (a b : Int) : Int := IntKind.u64.wrap (((BitVec.ofInt IntKind.u64.bits a &&& BitVec.ofInt IntKind.u64.bits b).toNat : Nat) : Int)
def guess (U y1 : Int) : Int := IntKind.u64.wrap (U.tdiv y1)
def rest (U y1 : Int) : Int := IntKind.u64.wrap (U - IntKind.u64.wrap (guess U y1 * y1))
def low (U u q y : Int) : Int := IntKind.u64.wrap (IntKind.u64.wrap (IntKind.u64.wrap (U * 4294967296) + u) - IntKind.u64.wrap (q * y))
def d64tail (p : List Int → Bool) (Q : Int → Int → Int → Int → Int → Int) (s y' y1 y0 un32 un1 un0 : Int) : Option (AV × List Con) :=
  bif y1 == 0 then none else
  bif p [y1, y0, un1, guess un32 y1, rest un32 y1] then
    bif y1 == 0 then none else
    bif p [y1, y0, un0, guess (low un32 un1 (Q y1 y0 un1 (guess un32 y1) (rest un32 y1)) y') y1, rest (low un32 un1 (Q y1 y0 un1 (guess un32 y1) (rest un32 y1)) y') y1] then
      bif decide (s < 0) then none else
        some (.val (.tuple #[.int .u64 (IntKind.u64.wrap (IntKind.u64.wrap (Q y1 y0 un1 (guess un32 y1) (rest un32 y1) * 4294967296) +
            Q y1 y0 un0 (guess (low un32 un1 (Q y1 y0 un1 (guess un32 y1) (rest un32 y1)) y') y1) (rest (low un32 un1 (Q y1 y0 un1 (guess un32 y1) (rest un32 y1)) y') y1))),
          .int .u64 (srI (low (low un32 un1 (Q y1 y0 un1 (guess un32 y1) (rest un32 y1)) y') un0
            (Q y1 y0 un0 (guess (low un32 un1 (Q y1 y0 un1 (guess un32 y1) (rest un32 y1)) y') y1) (rest (low un32 un1 (Q y1 y0 un1 (guess un32 y1) (rest un32 y1)) y') y1)) y') s)]), [])
    else none
  else none
theorem d64tree (pz : Int → Bool) (lz : Int → Int) (p : List Int → Bool) (Q R : Int → Int → Int → Int → Int → Int) (h l y : Int) :
    fnSum Try.prog { gam := [(185, S0c (fun (a : U6 × Unit) => pz a.1.n) fun a => lz a.1.n)] } [(0, lpHint 135 d64a (nums 67 19) p (dpostV Q R)), (2, lpHint 135 d64b (nums 102 19) p (dpostV Q R))] 20 183 [.val (.int .u64 h), .val (.int .u64 l), .val (.int .u64 y)] [] =
      bif y == 0 then none else bif decide (y ≤ h) then none else
        bif h == 0 then bif y == 0 then none else bif y == 0 then none else some (.val (.tuple #[.int .u64 (IntKind.u64.wrap (l.tdiv y)), .int .u64 (l.tmod y)]), [])
        else bif pz y then bif decide (IntKind.u64.wrap (lz y) < 0) then none else bif decide (IntKind.u64.wrap (lz y) < 0) then none else bif decide (IntKind.u64.wrap (64 - IntKind.u64.wrap (lz y)) < 0) then none else bif decide (IntKind.u64.wrap (lz y) < 0) then none else
          d64tail p Q (IntKind.u64.wrap (lz y)) (shI y (IntKind.u64.wrap (lz y))) (srI (shI y (IntKind.u64.wrap (lz y))) 32) (andI (shI y (IntKind.u64.wrap (lz y))) 4294967295)
            (orI (shI h (IntKind.u64.wrap (lz y))) (srI l (IntKind.u64.wrap (64 - IntKind.u64.wrap (lz y))))) (srI (shI l (IntKind.u64.wrap (lz y))) 32) (andI (shI l (IntKind.u64.wrap (lz y))) 4294967295) else none := by kernel_rfl
end Go.Ab
/- math/bits.Div64 is the quotient and what is left. -/
namespace Go.Ab
open Go Go.Proofs
theorem wrap_u64_emod (a : Int) : IntKind.u64.wrap a = a % 18446744073709551616 := wrap_u64 a
theorem low_eq (U u q y : Int) : low U u q y = (U * 4294967296 + u - q * y) % 18446744073709551616 := by
  unfold low
  simp only [wrap_u64]
  omega
theorem guess_eq {U y1 : Int} (hU : 0 ≤ U) (hU2 : U < 18446744073709551616) (hy : 0 < y1) : guess U y1 = U / y1 ∧ rest U y1 = U % y1 := by
  have h1 : U.tdiv y1 = U / y1 := Int.tdiv_eq_ediv_of_nonneg hU
  have h2 : 0 ≤ U / y1 := Int.ediv_nonneg hU (by omega)
  have h3 : U / y1 ≤ U := Int.ediv_le_self _ hU
  have h4 : U / y1 * y1 ≤ U := Int.ediv_mul_le U (by omega)
  have h5 : 0 ≤ U / y1 * y1 := Int.mul_nonneg h2 (by omega)
  have h6 : U % y1 = U - U / y1 * y1 := by
    have := Int.emod_add_mul_ediv U y1
    rw [Int.mul_comm] at this
    omega
  have g : guess U y1 = U / y1 := by unfold guess; rw [h1, wrap_u64_id h2 (by omega)]
  refine ⟨g, ?_⟩
  unfold rest
  rw [g, wrap_u64_id h5 (by omega), wrap_u64_id (by omega) (by omega), h6]
theorem digit_step {y1 y0 u U D : Int} (hD : D = y1 * 4294967296 + y0) (a1 : 2147483648 ≤ y1) (a2 : y1 < 4294967296) (a3 : 0 ≤ y0) (a4 : y0 < 4294967296) (a5 : 0 ≤ u) (a6 : u < 4294967296) (hU : 0 ≤ U) (hU2 : U < D) :
    dpre [y1, y0, u, guess U y1, rest U y1] = true ∧ digit y1 y0 u (guess U y1 * y1 + rest U y1) = (U * 4294967296 + u) / D ∧ low U u ((U * 4294967296 + u) / D) D = (U * 4294967296 + u) % D ∧
      0 ≤ (U * 4294967296 + u) / D ∧ (U * 4294967296 + u) / D < 4294967296 ∧ 0 ≤ (U * 4294967296 + u) % D ∧ (U * 4294967296 + u) % D < D := by
  obtain ⟨g1, g2⟩ := guess_eq (U := U) (y1 := y1) hU (by omega) (by omega)
  have hD0 : 0 < D := by omega
  have e1 : U / y1 * y1 + U % y1 = U := Int.ediv_mul_add_emod U y1
  have r0 := Int.emod_nonneg U (b := y1) (by omega)
  have r1 := Int.emod_lt_of_pos U (b := y1) (by omega)
  have q0 : 0 ≤ U / y1 := Int.ediv_nonneg hU (by omega)
  have q1 : U / y1 ≤ U := Int.ediv_le_self _ hU
  have c0 : 0 ≤ U / y1 * y0 := Int.mul_nonneg q0 a3
  have m0 := Int.emod_nonneg (U * 4294967296 + u) (b := D) (by omega)
  have m1 := Int.emod_lt_of_pos (U * 4294967296 + u) (b := D) hD0
  have m2 : (U * 4294967296 + u) / D * D + (U * 4294967296 + u) % D = U * 4294967296 + u := Int.ediv_mul_add_emod _ _
  refine ⟨?_, ?_, ?_, Int.ediv_nonneg (by omega) (by omega), ?_, m0, m1⟩
  · rw [g1, g2]
    simp only [dpre, decide_eq_true_eq]
    omega
  · rw [g1, g2, e1]
    unfold digit
    rw [← hD]
  · rw [low_eq]
    generalize (U * 4294967296 + u) / D * D = X at m2 ⊢
    omega
  · exact Int.ediv_lt_of_lt_mul hD0 (by omega)
theorem shI_eq (a : Int) (s : Nat) (hs : s ≤ 64) : shI a s = a * 2 ^ s % 18446744073709551616 := by
  unfold shI
  rw [wrap_u64, Int.toNat_natCast, show min s IntKind.u64.bits = s from Nat.min_eq_left hs]
theorem srI_eq (a : Int) (s : Nat) (hs : s ≤ 64) : srI a s = a / 2 ^ s := by
  unfold srI
  rw [Int.toNat_natCast, show min s IntKind.u64.bits = s from Nat.min_eq_left hs]
  exact Int.fdiv_eq_ediv_of_nonneg _ (Int.pow_nonneg (by omega))
theorem srI_32 (a : Int) : srI a 32 = a / 4294967296 := srI_eq a 32 (by omega)
theorem andI_eq (a : Int) (h0 : 0 ≤ a) (h1 : a < 18446744073709551616) : andI a 4294967295 = a % 4294967296 := by
  unfold andI
  have e : (BitVec.ofInt IntKind.u64.bits a &&& BitVec.ofInt IntKind.u64.bits 4294967295).toNat = a.toNat % 4294967296 := by
    rw [BitVec.toNat_and, BitVec.toNat_ofInt, BitVec.toNat_ofInt]
    have e1 : (a % ((2 ^ IntKind.u64.bits : Nat) : Int)).toNat = a.toNat := by
      rw [show ((2 ^ IntKind.u64.bits : Nat) : Int) = 18446744073709551616 by decide, Int.emod_eq_of_lt h0 h1]
    have e2 : ((4294967295 : Int) % ((2 ^ IntKind.u64.bits : Nat) : Int)).toNat = 2 ^ 32 - 1 := by decide
    rw [e1, e2, Nat.and_two_pow_sub_one_eq_mod]
  rw [e, wrap_u64_id (by omega) (by omega)]
  omega
theorem orI_eq (k b : Int) (s : Nat) (hk : 0 ≤ k) (hb : 0 ≤ b) (hb2 : b < 2 ^ s) (h : k * 2 ^ s + b < 18446744073709551616) : orI (k * 2 ^ s) b = k * 2 ^ s + b := by
  unfold orI
  have hz : (0 : Int) < 2 ^ s := Int.pow_pos (by omega)
  have hkz : 0 ≤ k * 2 ^ s := Int.mul_nonneg hk (by omega)
  have e : (BitVec.ofInt IntKind.u64.bits (k * 2 ^ s) ||| BitVec.ofInt IntKind.u64.bits b).toNat = (k * 2 ^ s + b).toNat := by
    rw [BitVec.toNat_or, BitVec.toNat_ofInt, BitVec.toNat_ofInt, show ((2 ^ IntKind.u64.bits : Nat) : Int) = 18446744073709551616 by decide, Int.emod_eq_of_lt hkz (by omega), Int.emod_eq_of_lt hb (by omega)]
    have hp : ((2 : Int) ^ s) = ((2 ^ s : Nat) : Int) := by simp
    have e1 : (k * 2 ^ s).toNat = 2 ^ s * k.toNat := by
      rw [hp, Int.toNat_mul hk (by omega), Int.toNat_natCast, Nat.mul_comm]
    have e2 : (k * 2 ^ s + b).toNat = 2 ^ s * k.toNat + b.toNat := by
      rw [Int.toNat_add hkz hb, e1]
    rw [e1, e2, Nat.two_pow_add_eq_or_of_lt]
    have : (b.toNat : Int) < ((2 ^ s : Nat) : Int) := by rw [← hp]; omega
    exact Int.ofNat_lt.1 this
  rw [e, wrap_u64_id (by omega) (by omega)]
  omega
theorem d64_val {h l y : Int} {s : Nat} (hs : s < 64) (h0 : 0 ≤ h) (hy : h < y) (l0 : 0 ≤ l) (l1 : l < 18446744073709551616) (n1 : 9223372036854775808 ≤ y * 2 ^ s) (n2 : y * 2 ^ s < 18446744073709551616) :
    d64tail dpre (fun y1 y0 u q r => digit y1 y0 u (q * y1 + r)) s (shI y s) (srI (shI y s) 32) (andI (shI y s) 4294967295) (orI (shI h s) (srI l ((64 - s : Nat) : Int))) (srI (shI l s) 32) (andI (shI l s) 4294967295) =
      some (.val (.tuple #[.int .u64 ((h * 18446744073709551616 + l) / y), .int .u64 ((h * 18446744073709551616 + l) % y)]), []) := by
  have hz : (0 : Int) < 2 ^ s := Int.pow_pos (by omega)
  have hw : (0 : Int) < 2 ^ (64 - s) := Int.pow_pos (by omega)
  have hzw : (2 : Int) ^ s * 2 ^ (64 - s) = 18446744073709551616 := by rw [← Int.pow_add, show s + (64 - s) = 64 by omega]; decide
  rw [shI_eq y s (by omega), shI_eq h s (by omega), shI_eq l s (by omega), srI_eq l (64 - s) (by omega)]
  rw [srI_32, srI_32, andI_eq _ (Int.emod_nonneg _ (by omega)) (Int.emod_lt_of_pos _ (by omega)), andI_eq _ (Int.emod_nonneg _ (by omega)) (Int.emod_lt_of_pos _ (by omega))]
  have hhz : 0 ≤ h * 2 ^ s := Int.mul_nonneg h0 (by omega)
  have hhy : h * 2 ^ s + 2 ^ s ≤ y * 2 ^ s := by
    have : (h + 1) * 2 ^ s ≤ y * 2 ^ s := Int.mul_le_mul_of_nonneg_right (by omega) (by omega)
    rw [Int.add_mul, Int.one_mul] at this
    exact this
  have lw0 : 0 ≤ l / 2 ^ (64 - s) := Int.ediv_nonneg l0 (by omega)
  have lw1 : l / 2 ^ (64 - s) < 2 ^ s := Int.ediv_lt_of_lt_mul hw (by rw [hzw]; exact l1)
  rw [Int.emod_eq_of_lt (a := y * 2 ^ s) (by omega) n2, Int.emod_eq_of_lt (a := h * 2 ^ s) hhz (by omega), orI_eq h _ s h0 lw0 lw1 (by omega)]
  -- the low word
  have hl : l / 2 ^ (64 - s) * 2 ^ (64 - s) + l % 2 ^ (64 - s) = l := Int.ediv_mul_add_emod l _
  have lm0 := Int.emod_nonneg l (b := 2 ^ (64 - s)) (by omega)
  have lm1 := Int.emod_lt_of_pos l hw
  have hl2 : l * 2 ^ s = l / 2 ^ (64 - s) * 18446744073709551616 + l % 2 ^ (64 - s) * 2 ^ s := by
    calc l * 2 ^ s = (l / 2 ^ (64 - s) * 2 ^ (64 - s) + l % 2 ^ (64 - s)) * 2 ^ s := by rw [hl]
      _ = l / 2 ^ (64 - s) * 18446744073709551616 + l % 2 ^ (64 - s) * 2 ^ s := by rw [Int.add_mul, Int.mul_assoc, Int.mul_comm (2 ^ (64 - s)) (2 ^ s), hzw]
  have lz0 : 0 ≤ l % 2 ^ (64 - s) * 2 ^ s := Int.mul_nonneg lm0 (by omega)
  have lz1 : l % 2 ^ (64 - s) * 2 ^ s < 18446744073709551616 := by
    have : l % 2 ^ (64 - s) * 2 ^ s < 2 ^ (64 - s) * 2 ^ s := Int.mul_lt_mul_of_pos_right lm1 hz
    rw [Int.mul_comm (2 ^ (64 - s)) (2 ^ s), hzw] at this
    exact this
  have hL : l * 2 ^ s % 18446744073709551616 = l % 2 ^ (64 - s) * 2 ^ s := by rw [hl2]; omega
  rw [hL]
  generalize hD : y * 2 ^ s = D at *
  generalize hLL : l % 2 ^ (64 - s) * 2 ^ s = L at *
  generalize hU : h * 2 ^ s + l / 2 ^ (64 - s) = U at *
  have hM : U * 18446744073709551616 + L = (h * 18446744073709551616 + l) * 2 ^ s := by
    rw [Int.add_mul, hl2, ← hU, Int.add_mul, Int.mul_assoc h, Int.mul_assoc h, Int.mul_comm (2 ^ s)]
    omega
  obtain ⟨p1, p2, p3, p4, p5, p6, p7⟩ := digit_step (y1 := D / 4294967296) (y0 := D % 4294967296) (u := L / 4294967296) (U := U) (D := D) (by omega) (by omega) (by omega) (by omega) (by omega) (by omega) (by omega) (by omega) (by omega)
  obtain ⟨k1, k2, k3, k4, k5, k6, k7⟩ := digit_step (y1 := D / 4294967296) (y0 := D % 4294967296) (u := L % 4294967296) (U := (U * 4294967296 + L / 4294967296) % D) (D := D) (by omega) (by omega) (by omega) (by omega) (by omega) (by omega) (by omega) p6 p7
  have y1n : (D / 4294967296 == 0) = false := by simp; omega
  unfold d64tail
  dsimp only
  rw [y1n, p1, p2, p3, k1, k2, k3]
  simp only [cond_false, cond_true]
  have hsn : decide ((s : Int) < 0) = false := by simp
  rw [hsn, cond_false, srI_eq _ s (by omega)]
  have m1 : (U * 4294967296 + L / 4294967296) / D * D + (U * 4294967296 + L / 4294967296) % D = U * 4294967296 + L / 4294967296 := Int.ediv_mul_add_emod _ _
  have m2 : ((U * 4294967296 + L / 4294967296) % D * 4294967296 + L % 4294967296) / D * D + ((U * 4294967296 + L / 4294967296) % D * 4294967296 + L % 4294967296) % D = (U * 4294967296 + L / 4294967296) % D * 4294967296 + L % 4294967296 := Int.ediv_mul_add_emod _ _
  generalize (U * 4294967296 + L / 4294967296) / D = Q1 at *
  generalize ((U * 4294967296 + L / 4294967296) % D * 4294967296 + L % 4294967296) / D = Q0 at *
  generalize ((U * 4294967296 + L / 4294967296) % D * 4294967296 + L % 4294967296) % D = R at *
  rw [wrap_u64_id (z := Q1 * 4294967296) (by omega) (by omega), wrap_u64_id (by omega) (by omega)]
  -- the quotient and the rest
  have key : (h * 18446744073709551616 + l) * 2 ^ s = (Q1 * 4294967296 + Q0) * D + R := by
    rw [← hM, Int.add_mul, Int.mul_right_comm]
    omega
  generalize hN : h * 18446744073709551616 + l = N at *
  generalize hQ : Q1 * 4294967296 + Q0 = Q at *
  have key2 : R = (N - Q * y) * 2 ^ s := by
    rw [Int.sub_mul, key, Int.mul_assoc, hD]; omega
  have key3 : R / 2 ^ s = N - Q * y := by rw [key2, Int.mul_ediv_cancel _ (by omega)]
  have b0 : 0 ≤ N - Q * y := by rw [← key3]; exact Int.ediv_nonneg k6 (by omega)
  have b1 : N - Q * y < y := by
    have : (N - Q * y) * 2 ^ s < y * 2 ^ s := by rw [← key2, hD]; exact k7
    exact Int.lt_of_mul_lt_mul_right this (by omega)
  have hy0 : 0 < y := by omega
  have hq : N / y = Q := by
    refine Int.le_antisymm ?_ ?_
    · refine Int.lt_add_one_iff.1 (Int.ediv_lt_of_lt_mul hy0 ?_)
      rw [Int.add_mul, Int.one_mul]; omega
    · exact (Int.le_ediv_iff_mul_le hy0).2 (by omega)
  have hr : N % y = N - Q * y := by
    have := Int.ediv_mul_add_emod N y
    rw [hq] at this
    omega
  rw [key3, hq, hr]
end Go.Ab
/- The shelf's contracts at this dump (math/bits: LeadingZeros64, Len64, Mul64), as the kit's tool laid them; no statement, no condition. -/
namespace Go.Proofs
open Go.Shelf
def Try.lays134_ren : Go.Shelf.Ren := ⟨fun | 134 => 185 | 129 => 187 | n => n, fun | 53 => 167 | 3 => 3 | 4 => 4 | 46 => 169 | 5 => 5 | 9 => 9 | n => n, fun | n => n⟩
theorem Try.lays134 : Go.Proofs.Lays.n134 Try.prog Try.lays134_ren := {
  mixed := by kernel_rfl
  f129 := Try.func187.trans (congrArg some (by kernel_rfl))
  f134 := Try.func185.trans (congrArg some (by kernel_rfl))
  t3 := Try.underlying3
  a3 := Try.isAgg3
  z3 := Try.sizeOf3
  v3 := Try.zeroValue3
  t4 := Try.underlying4
  a4 := Try.isAgg4
  z4 := Try.sizeOf4
  v4 := Try.zeroValue4
  t5 := Try.underlying5
  a5 := Try.isAgg5
  z5 := Try.sizeOf5
  v5 := Try.zeroValue5
  t9 := Try.underlying9
  a9 := Try.isAgg9
  z9 := Try.sizeOf9
  v9 := Try.zeroValue9
  t46 := Try.underlying169
  a46 := Try.isAgg169
  z46 := Try.sizeOf169
  v46 := Try.zeroValue169
  t53 := Try.underlying167
  a53 := Try.isAgg167
  z53 := Try.sizeOf167
  v53 := Try.zeroValue167 }
theorem Try.bits_LeadingZeros64 (x : Int) (w : World) (h0 : 0 ≤ x) (h1 : x ≤ 18446744073709551615) :
    Calls Try.prog 185 #[.int .u64 x] w fun e w' => e = .returned (.int .i64 (64 - (Lib.bitLen x.toNat : Int))) ∧ w' = w := Any.bits_LeadingZeros64 Try.lays134 x w h0 h1
def Try.lays129_ren : Go.Shelf.Ren := ⟨fun | 129 => 187 | n => n, fun | 53 => 167 | 3 => 3 | 4 => 4 | 46 => 169 | 5 => 5 | 9 => 9 | n => n, fun | n => n⟩
theorem Try.lays129 : Go.Proofs.Lays.n129 Try.prog Try.lays129_ren := {
  mixed := by kernel_rfl
  f129 := Try.func187.trans (congrArg some (by kernel_rfl))
  t3 := Try.underlying3
  a3 := Try.isAgg3
  z3 := Try.sizeOf3
  v3 := Try.zeroValue3
  t4 := Try.underlying4
  a4 := Try.isAgg4
  z4 := Try.sizeOf4
  v4 := Try.zeroValue4
  t5 := Try.underlying5
  a5 := Try.isAgg5
  z5 := Try.sizeOf5
  v5 := Try.zeroValue5
  t9 := Try.underlying9
  a9 := Try.isAgg9
  z9 := Try.sizeOf9
  v9 := Try.zeroValue9
  t46 := Try.underlying169
  a46 := Try.isAgg169
  z46 := Try.sizeOf169
  v46 := Try.zeroValue169
  t53 := Try.underlying167
  a53 := Try.isAgg167
  z53 := Try.sizeOf167
  v53 := Try.zeroValue167 }
theorem Try.bits_Len64 (x : Int) (w : World) (h0 : 0 ≤ x) (h1 : x ≤ 18446744073709551615) :
    Calls Try.prog 187 #[.int .u64 x] w fun e w' => e = .returned (.int .i64 (Lib.bitLen x.toNat)) ∧ w' = w := Any.bits_Len64 Try.lays129 x w h0 h1
def Try.lays264_ren : Go.Shelf.Ren := ⟨fun | 264 => 176 | n => n, fun | 53 => 167 | 46 => 169 | n => n, fun | n => n⟩
theorem Try.lays264 : Go.Proofs.Lays.n264 Try.prog Try.lays264_ren := {
  mixed := by kernel_rfl
  f264 := Try.func176.trans (congrArg some (by kernel_rfl))
  t46 := Try.underlying169
  a46 := Try.isAgg169
  z46 := Try.sizeOf169
  v46 := Try.zeroValue169
  t53 := Try.underlying167
  a53 := Try.isAgg167
  z53 := Try.sizeOf167
  v53 := Try.zeroValue167 }
open Go.RowKit Go.Lib in
theorem Try.bits_Mul64 (x y : Nat) (hx : x < 18446744073709551616) (hy : y < 18446744073709551616) (w : World) :
    Calls Try.prog 176 #[.int .u64 x, .int .u64 y] w fun e w' => e = .returned (.tuple #[.int .u64 ((x * y / 18446744073709551616 : Nat) : Int), .int .u64 ((x * y % 18446744073709551616 : Nat) : Int)]) ∧ w' = w := Any.bits_Mul64 Try.lays264 x y hx hy w
end Go.Proofs
/- math/bits: Mul64, LeadingZeros64, Div64 as summaries. -/
namespace Go.Ab
open Go Go.Proofs
def word (x : Int) : Bool := decide (0 ≤ x ∧ x < 18446744073709551616)
def mulPre (a : U6 × U6 × Unit) : Bool := word a.1.n && word a.2.1.n
def mulVal (a : U6 × U6 × Unit) : Two U6 U6 := ⟨⟨a.1.n * a.2.1.n / 18446744073709551616⟩, ⟨a.1.n * a.2.1.n % 18446744073709551616⟩⟩
theorem ok176 : SumOk Try.prog 176 (S0c mulPre mulVal) := by
  refine S0c_quiet (fun a => [.int .u64 a.1.n, .int .u64 a.2.1.n]) (fun a => rfl) fun a hp w => ?_
  obtain ⟨⟨x⟩, ⟨y⟩, _⟩ := a
  simp only [mulPre, word, Bool.and_eq_true, decide_eq_true_eq] at hp
  have h := Try.bits_Mul64 x.toNat y.toNat (by omega) (by omega) w
  have ex : ((x.toNat : Nat) : Int) = x := by omega
  have ey : ((y.toNat : Nat) : Int) = y := by omega
  have e1 : ((x.toNat * y.toNat / 18446744073709551616 : Nat) : Int) = x * y / 18446744073709551616 := by rw [Int.natCast_ediv, Int.natCast_mul, ex, ey]; rfl
  have e2 : ((x.toNat * y.toNat % 18446744073709551616 : Nat) : Int) = x * y % 18446744073709551616 := by rw [Int.natCast_emod, Int.natCast_mul, ex, ey]; rfl
  rw [e1, e2, ex, ey] at h
  exact h
def lzVal (x : Int) : Int := 64 - (Lib.bitLen x.toNat : Int)
theorem ok185 : SumOk Try.prog 185 (S0c (fun (a : U6 × Unit) => word a.1.n) fun a => lzVal a.1.n) := by
  refine S0c_quiet (fun a => [.int .u64 a.1.n]) (fun a => rfl) fun a hp w => ?_
  obtain ⟨⟨x⟩, _⟩ := a
  simp only [word, decide_eq_true_eq] at hp
  exact Try.bits_LeadingZeros64 x w hp.1 (by omega)
def divPre (a : U6 × U6 × U6 × Unit) : Bool := decide (0 ≤ a.1.n ∧ a.1.n < a.2.2.1.n ∧ 0 ≤ a.2.1.n ∧ a.2.1.n < 18446744073709551616 ∧ a.2.2.1.n < 18446744073709551616)
def divVal (a : U6 × U6 × U6 × Unit) : Two U6 U6 := ⟨⟨(a.1.n * 18446744073709551616 + a.2.1.n) / a.2.2.1.n⟩, ⟨(a.1.n * 18446744073709551616 + a.2.1.n) % a.2.2.1.n⟩⟩
theorem ok183 : SumOk Try.prog 183 (S0c divPre divVal) := by
  have hG : GamOk Try.prog [(185, S0c (fun (a : U6 × Unit) => word a.1.n) fun a => lzVal a.1.n)] := .cons ok185 .nil
  refine S0c_okH (E := { gam := [(185, S0c (fun (a : U6 × Unit) => word a.1.n) fun a => lzVal a.1.n)] }) hG (hB := d64h) d64fit 20 fun a hp => ?_
  obtain ⟨⟨h⟩, ⟨l⟩, ⟨y⟩, _⟩ := a
  simp only [divPre, decide_eq_true_eq] at hp
  obtain ⟨h0, hy, l0, l1, y1⟩ := hp
  refine (d64tree word lzVal dpre (fun y1 y0 u q r => digit y1 y0 u (q * y1 + r)) (fun y1 y0 u q r => q * y1 + r - digit y1 y0 u (q * y1 + r) * y1) h l y).trans ?_
  have t1 : (y == 0) = false := by simp; omega
  have t2 : decide (y ≤ h) = false := by simp; omega
  rw [t1, t2]
  simp only [cond_false]
  by_cases hh : h = 0
  · subst hh
    simp only [BEq.rfl, cond_true]
    have e1 : IntKind.u64.wrap (l.tdiv y) = (0 * 18446744073709551616 + l) / y := by
      have a1 := Int.ediv_le_self (a := l) y l0
      have a2 : 0 ≤ l / y := Int.ediv_nonneg l0 (by omega)
      rw [Int.tdiv_eq_ediv_of_nonneg l0, wrap_u64_id a2 (by omega)]
      congr 1
      omega
    have e2 : l.tmod y = (0 * 18446744073709551616 + l) % y := by
      rw [Int.tmod_eq_emod_of_nonneg l0]
      congr 1
      omega
    rw [e1, e2]
    rfl
  · have t3 : (h == 0) = false := by simp; exact hh
    have t4 : word y = true := by simp only [word, decide_eq_true_eq]; omega
    rw [t3, t4]
    simp only [cond_false, cond_true]
    have hyn : y.toNat ≠ 0 := by omega
    obtain ⟨b1, b2, b3⟩ := Lib.bitLenAux_bounds 64 y.toNat (by omega) hyn
    have hb : Lib.bitLen y.toNat ≤ 64 := Lib.bitLen_le y.toNat 64 (by omega) (by omega)
    change 1 ≤ Lib.bitLen y.toNat at b1
    change 2 ^ (Lib.bitLen y.toNat - 1) ≤ y.toNat at b2
    change y.toNat < 2 ^ Lib.bitLen y.toNat at b3
    generalize hk : Lib.bitLen y.toNat = k at *
    have hs : IntKind.u64.wrap (lzVal y) = ((64 - k : Nat) : Int) := by
      unfold lzVal
      rw [hk, wrap_u64_id (by omega) (by omega)]
      omega
    have hs2 : IntKind.u64.wrap (64 - ((64 - k : Nat) : Int)) = ((64 - (64 - k) : Nat) : Int) := by
      rw [wrap_u64_id (by omega) (by omega)]
      omega
    rw [hs, hs2]
    have t5 : decide (((64 - k : Nat) : Int) < 0) = false := by simp
    have t6 : decide (((64 - (64 - k) : Nat) : Int) < 0) = false := by simp
    rw [t5, t6]
    simp only [cond_false]
    have hpow : ∀ n : Nat, ((2 ^ n : Nat) : Int) = (2 : Int) ^ n := fun n => by simp
    refine d64_val (by omega) h0 hy l0 l1 ?_ ?_
    · have : (2 : Int) ^ (k - 1) ≤ y := by
        rw [← hpow]; omega
      have h2 : (2 : Int) ^ (k - 1) * 2 ^ (64 - k) ≤ y * 2 ^ (64 - k) := Int.mul_le_mul_of_nonneg_right this (Int.pow_nonneg (by omega))
      rw [← Int.pow_add, show k - 1 + (64 - k) = 63 by omega] at h2
      exact h2
    · have : y < (2 : Int) ^ k := by
        rw [← hpow]; omega
      have h2 : y * 2 ^ (64 - k) < (2 : Int) ^ k * 2 ^ (64 - k) := Int.mul_lt_mul_of_pos_right this (Int.pow_pos (by omega))
      rw [← Int.pow_add, show k + (64 - k) = 64 by omega] at h2
      exact h2
end Go.Ab
/- fixed's ratio: a b / c, rounded. -/
namespace Go.Ab
open Go Go.Proofs
def xorI (a b : Int) : Int := IntKind.u64.wrap (((BitVec.ofInt IntKind.u64.bits a ^^^ BitVec.ofInt IntKind.u64.bits b).toNat : Nat) : Int)
theorem ratioTree (mp : U6 × U6 × Unit → Bool) (mv : U6 × U6 × Unit → Two U6 U6) (dp : U6 × U6 × U6 × Unit → Bool) (dv : U6 × U6 × U6 × Unit → Two U6 U6) (sz : Int × Unit → Two U6 U6) (gv : Bool → Int × Bool × Unit → Int × Bool) (a b c : Int) (f : Bool) :
    fnSum Try.prog { gam := [(176, S0c mp mv), (183, S0c dp dv), (175, S0 sz), (169, S 25 gv)] } [] 20 166 [.ptr 0 0, .val (.int .i64 a), .val (.int .i64 b), .val (.int .i64 c)] (row 25 f) =
      let x := (sz (a, ())).a.n; let y := (sz (b, ())).a.n; let z := (sz (c, ())).a.n
      let G := fun (m : Int) (ok : Bool) => some (AV.val (.int .i64 (gv f (m, ok, ())).1), row 25 (gv f (m, ok, ())).2)
      let H := (mv (⟨x⟩, ⟨y⟩, ())).a.n; let L := (mv (⟨x⟩, ⟨y⟩, ())).b.n
      let n := (dv (⟨H⟩, ⟨L⟩, ⟨z⟩, ())).a.n; let left := (dv (⟨H⟩, ⟨L⟩, ⟨z⟩, ())).b.n
      let r := xorI (xorI (sz (a, ())).b.n (sz (b, ())).b.n) (sz (c, ())).b.n
      bif mp (⟨x⟩, ⟨y⟩, ()) then bif z == 0 then G 0 false else bif decide (H ≥ z) then G 0 false else
        bif dp (⟨H⟩, ⟨L⟩, ⟨z⟩, ()) then bif decide (n > 4611686018427387904) then G 0 false else
          bif decide (left ≥ IntKind.u64.wrap (z - left)) then
            bif r == 1 then G (IntKind.i64.wrap (0 - IntKind.i64.wrap (IntKind.u64.wrap (n + 1)))) true else G (IntKind.i64.wrap (IntKind.u64.wrap (n + 1))) true
          else bif r == 1 then G (IntKind.i64.wrap (0 - IntKind.i64.wrap n)) true else G (IntKind.i64.wrap n) true
        else none
      else none := by kernel_rfl
theorem sizeTree (a : Int) : fnSum Try.prog { gam := [] } [] 20 175 [.val (.int .i64 a)] [] =
    bif decide (a < 0) then some (.val (.tuple #[.int .u64 (IntKind.u64.wrap (IntKind.i64.wrap (0 - a))), .int .u64 1]), []) else some (.val (.tuple #[.int .u64 (IntKind.u64.wrap a), .int .u64 0]), []) := by kernel_rfl
theorem giveTree (f ok : Bool) (n : Int) : fnSum Try.prog { gam := [] } [] 20 169 [.ptr 0 0, .val (.int .i64 n), .val (.bool ok)] (row 25 f) =
    bif !ok then some (.val (.int .i64 0), row 25 true) else bif decide (n > 4611686018427387904) then some (.val (.int .i64 0), row 25 true) else bif decide (n < -4611686018427387904) then some (.val (.int .i64 0), row 25 true) else some (.val (.int .i64 n), row 25 f) := by kernel_rfl
end Go.Ab
/- fixed's ratio is the rounded quotient. -/
namespace Go.Ab
open Go Go.Proofs
/-- A method of a flow, where a condition on its numbers holds. -/
def Sc {α ω : Type} [Args α] [Cod ω] (e : TypeId) (pre : α → Bool) (g : Bool → α → ω × Bool) : Summary := fun args cs => match args, cs with
  | .ptr 0 0 :: r, [.row e' [.val (.bool b)]] => match Nat.beq e e', Args.decs (α := α) r with
    | true, some a => .test (pre a) (.ret (.val (Cod.enc (g b a).1)) (row e (g b a).2)) .no
    | _, _ => .no
  | _, _ => .no
theorem Sc_sel {α ω : Type} [Args α] [Cod ω] {e : TypeId} {pre : α → Bool} {g : Bool → α → ω × Bool} {args : List AV} {cs cs' : List Con} {r : AV} (h : (Sc e pre g args cs).sel = some (r, cs')) :
    ∃ b a, pre a = true ∧ args = .ptr 0 0 :: Args.encs a ∧ cs = row e b ∧ r = .val (Cod.enc (g b a).1) ∧ cs' = row e (g b a).2 := by
  unfold Sc at h
  split at h
  · split at h
    · rename_i e' b _ _ a h1 h2
      simp only [STr.sel] at h
      cases hp : pre a with
      | false => rw [hp] at h; cases h
      | true =>
        rw [hp] at h
        simp only [cond_true, Option.some.injEq, Prod.mk.injEq] at h
        obtain ⟨rfl, rfl⟩ := h
        refine ⟨b, a, hp, by rw [Args.law _ _ h2], ?_, rfl, rfl⟩
        rw [Nat.eq_of_beq_eq_true h1]; rfl
    · simp [STr.sel] at h
  · simp [STr.sel] at h
theorem Sc_ok {α ω : Type} [Args α] [Cod ω] {P : Program} {E : Env} (hG : GamOk P E.gam) {f : FuncId} {e : TypeId} {pre : α → Bool} {g : Bool → α → ω × Bool} (d : Nat)
    (h : ∀ b a, pre a = true → fnSum P E [] d f (.ptr 0 0 :: Args.encs a) (row e b) = some (.val (Cod.enc (g b a).1), row e (g b a).2)) : SumOk P f (Sc e pre g) := by
  refine sumOk_of hG fun args cs r cs' hs => ?_
  obtain ⟨b, a, hp, rfl, rfl, rfl, rfl⟩ := Sc_sel hs
  exact ⟨by simp [row], d, h b a hp⟩

def iabs (a : Int) : Int := bif decide (a < 0) then 0 - a else a
def sgn (a : Int) : Int := bif decide (a < 0) then 1 else 0
def szV (p : Int × Unit) : Two U6 U6 := ⟨⟨bif decide (p.1 < 0) then IntKind.u64.wrap (IntKind.i64.wrap (0 - p.1)) else IntKind.u64.wrap p.1⟩, ⟨sgn p.1⟩⟩
def gvV (f : Bool) (p : Int × Bool × Unit) : Int × Bool := bif p.2.1 && num p.1 then (p.1, f) else (0, true)
def rnd (N z : Int) : Int := bif decide (N % z ≥ z - N % z) then N / z + 1 else N / z
def neg3 (a b c : Int) : Bool := xor (xor (decide (a < 0)) (decide (b < 0))) (decide (c < 0))
def fratio (f : Bool) (a b c : Int) : Int × Bool :=
  bif iabs c == 0 || decide (iabs a * iabs b / iabs c > 4611686018427387904) || decide (rnd (iabs a * iabs b) (iabs c) > 4611686018427387904) then (0, true)
  else (bif neg3 a b c then 0 - rnd (iabs a * iabs b) (iabs c) else rnd (iabs a * iabs b) (iabs c), f)
def num3 (p : Int × Int × Int × Unit) : Bool := num p.1 && (num p.2.1 && num p.2.2.1)
theorem iabs_num {a : Int} (h : num a = true) : 0 ≤ iabs a ∧ iabs a ≤ 4611686018427387904 := by
  rw [num_iff] at h
  unfold iabs
  by_cases h1 : a < 0
  · simp only [h1, decide_true, cond_true]; omega
  · simp only [h1, decide_false, cond_false]; omega
theorem szV_num {a : Int} (h : num a = true) : (szV (a, ())).a.n = iabs a ∧ (szV (a, ())).b.n = sgn a := by
  rw [num_iff] at h
  refine ⟨?_, rfl⟩
  have e1 : a < 0 → IntKind.u64.wrap (IntKind.i64.wrap (0 - a)) = 0 - a := fun h1 => by
    rw [wrap_i64_id (z := 0 - a) (by omega) (by omega), wrap_u64_id (z := 0 - a) (by omega) (by omega)]
  have e2 : ¬ a < 0 → IntKind.u64.wrap a = a := fun h1 => wrap_u64_id (by omega) (by omega)
  unfold szV iabs
  dsimp only
  by_cases h1 : a < 0
  · rw [e1 h1]; simp only [h1, decide_true, cond_true]
  · rw [e2 h1]; simp only [h1, decide_false, cond_false]
theorem ok175 : SumOk Try.prog 175 (S0 szV) := by
  refine S0_ok (E := { gam := [] }) GamOk.nil 20 fun a => ?_
  obtain ⟨a, _⟩ := a
  refine (sizeTree a).trans ?_
  unfold szV sgn
  dsimp only
  cases decide (a < 0) <;> rfl
theorem ok169 : SumOk Try.prog 169 (S 25 gvV) := by
  refine S_ok (E := { gam := [] }) GamOk.nil 20 fun f a => ?_
  obtain ⟨n, ok, _⟩ := a
  refine (giveTree f ok n).trans ?_
  unfold gvV num
  cases ok
  · rfl
  · by_cases h1 : n > 4611686018427387904
    · have e : decide (n ≤ 4611686018427387904) = false := by simp; omega
      simp only [h1, e, decide_true, Bool.not_true, cond_false, cond_true, Bool.false_and, Bool.and_false]; rfl
    · have e : decide (n ≤ 4611686018427387904) = true := by simp; omega
      by_cases h2 : n < -4611686018427387904
      · have e2 : decide (-4611686018427387904 ≤ n) = false := by simp; omega
        simp only [h1, h2, e, e2, decide_true, decide_false, Bool.not_true, cond_false, cond_true, Bool.and_false]; rfl
      · have e2 : decide (-4611686018427387904 ≤ n) = true := by simp; omega
        simp only [h1, h2, e, e2, decide_false, Bool.not_true, cond_false, cond_true, Bool.and_self]; rfl
theorem xor3 (a b c : Int) : (xorI (xorI (sgn a) (sgn b)) (sgn c) == 1) = neg3 a b c := by
  unfold sgn neg3
  cases decide (a < 0) <;> cases decide (b < 0) <;> cases decide (c < 0) <;> rfl
theorem gvV_ok {f : Bool} {m : Int} : gvV f (m, true, ()) = bif num m then (m, f) else (0, true) := by simp [gvV]
theorem gv_neg {f n : Bool} {q : Int} (h0 : 0 ≤ q) : gvV f (bif n then 0 - q else q, true, ()) = bif decide (q > 4611686018427387904) then (0, true) else (bif n then 0 - q else q, f) := by
  rw [gvV_ok]
  have : num (bif n then 0 - q else q) = !decide (q > 4611686018427387904) := by
    rw [Bool.eq_iff_iff, num_iff, Bool.not_eq_true', decide_eq_false_iff_not]
    cases n <;> simp only [cond_true, cond_false] <;> omega
  rw [this]
  cases decide (q > 4611686018427387904) <;> rfl
theorem ok166 : SumOk Try.prog 166 (Sc 25 num3 fun f (p : Int × Int × Int × Unit) => fratio f p.1 p.2.1 p.2.2.1) := by
  have hG : GamOk Try.prog [(176, S0c mulPre mulVal), (183, S0c divPre divVal), (175, S0 szV), (169, S 25 gvV)] := .cons ok176 (.cons ok183 (.cons ok175 (.cons ok169 .nil)))
  refine Sc_ok (E := { gam := [(176, S0c mulPre mulVal), (183, S0c divPre divVal), (175, S0 szV), (169, S 25 gvV)] }) hG 20 fun f p hp => ?_
  obtain ⟨a, b, c, _⟩ := p
  simp only [num3, Bool.and_eq_true] at hp
  obtain ⟨ha, hb, hc⟩ := hp
  refine (ratioTree mulPre mulVal divPre divVal szV gvV a b c f).trans ?_
  obtain ⟨a1, a2⟩ := szV_num ha
  obtain ⟨b1, b2⟩ := szV_num hb
  obtain ⟨c1, c2⟩ := szV_num hc
  obtain ⟨a3, a4⟩ := iabs_num ha
  obtain ⟨b3, b4⟩ := iabs_num hb
  obtain ⟨c3, c4⟩ := iabs_num hc
  dsimp only
  rw [a1, a2, b1, b2, c1, c2, xor3]
  have n0 : 0 ≤ iabs a * iabs b := Int.mul_nonneg a3 b3
  have n1 : iabs a * iabs b ≤ 4611686018427387904 * 4611686018427387904 := Int.le_trans (Int.mul_le_mul_of_nonneg_right a4 b3) (Int.mul_le_mul_of_nonneg_left b4 (by omega))
  have hm : mulPre (⟨iabs a⟩, ⟨iabs b⟩, ()) = true := by simp only [mulPre, word, Bool.and_eq_true, decide_eq_true_eq]; omega
  rw [hm, cond_true]
  unfold fratio
  generalize hx : iabs a * iabs b = N at *
  generalize iabs c = z at *
  simp only [mulVal, hx]
  have hbad : ∀ m : Int, gvV f (m, false, ()) = (0, true) := fun m => rfl
  by_cases hz : z = 0
  · subst hz
    simp only [BEq.rfl, cond_true, Bool.true_or, hbad]
    rfl
  have hz' : (z == 0) = false := by simp; exact hz
  have hzp : 0 < z := by omega
  rw [hz']
  simp only [cond_false, Bool.false_or]
  by_cases hh : N / 18446744073709551616 ≥ z
  · have : decide (N / z > 4611686018427387904) = true := by
      simp only [decide_eq_true_eq]
      have : 4611686018427387905 ≤ N / z := (Int.le_ediv_iff_mul_le hzp).2 (by omega)
      omega
    simp only [hh, this, decide_true, cond_true, Bool.true_or, hbad]
    rfl
  have hd : divPre (⟨N / 18446744073709551616⟩, ⟨N % 18446744073709551616⟩, ⟨z⟩, ()) = true := by
    simp only [divPre, decide_eq_true_eq]; omega
  have hv : divVal (⟨N / 18446744073709551616⟩, ⟨N % 18446744073709551616⟩, ⟨z⟩, ()) = ⟨⟨N / z⟩, ⟨N % z⟩⟩ := by
    unfold divVal
    simp only [show N / 18446744073709551616 * 18446744073709551616 + N % 18446744073709551616 = N by omega]
  simp only [hh, hd, hv, decide_false, cond_false, cond_true]
  have q0 : 0 ≤ N / z := Int.ediv_nonneg n0 (by omega)
  have r0 := Int.emod_nonneg N (b := z) (by omega)
  have r1 := Int.emod_lt_of_pos N hzp
  by_cases hq : N / z > 4611686018427387904
  · simp only [hq, decide_true, cond_true, Bool.true_or, hbad]
    rfl
  simp only [hq, decide_false, cond_false, Bool.false_or]
  rw [wrap_u64_id (z := z - N % z) (by omega) (by omega), wrap_u64_id (z := N / z + 1) (by omega) (by omega), wrap_i64_id (z := N / z + 1) (by omega) (by omega), wrap_i64_id (z := N / z) (by omega) (by omega),
    wrap_i64_id (z := 0 - (N / z + 1)) (by omega) (by omega), wrap_i64_id (z := 0 - N / z) (by omega) (by omega)]
  have fin : ∀ q : Int, 0 ≤ q → (bif neg3 a b c then some (AV.val (.int .i64 (gvV f (0 - q, true, ())).1), row 25 (gvV f (0 - q, true, ())).2) else some (AV.val (.int .i64 (gvV f (q, true, ())).1), row 25 (gvV f (q, true, ())).2)) =
      some (AV.val (Cod.enc (bif decide (q > 4611686018427387904) then ((0 : Int), true) else (bif neg3 a b c then 0 - q else q, f)).1), row 25 (bif decide (q > 4611686018427387904) then ((0 : Int), true) else (bif neg3 a b c then 0 - q else q, f)).2) := by
    intro q h0
    rw [← gv_neg h0]
    cases neg3 a b c <;> rfl
  rw [fin _ (by omega), fin _ (by omega)]
  unfold rnd
  cases decide (N % z ≥ z - N % z) <;> rfl
end Go.Ab
/- fixed's Mul, Div, Part. -/
namespace Go.Ab
open Go Go.Proofs
variable {β : Type}
/-- take, as fixed's text goes, and as the document's. -/
def ptk : List Int → Bool → (Bool → Option β) → Option β
  | [], f, K => K f
  | x :: r, f, K => bif f then ptk r true K else bif decide (x > 4611686018427387904) then ptk r true K else ptk r (decide (x < -4611686018427387904)) K
def rtk : List Int → Bool → (Bool → Option β) → Option β
  | [], f, K => K f
  | x :: r, f, K => bif decide (x ≥ -4611686018427387904) then (bif !decide (x ≤ 4611686018427387904) then rtk r true K else rtk r f K) else rtk r true K
def nums? : List Int → Bool
  | [] => true
  | x :: r => num x && nums? r
theorem ptk_eq : ∀ (l : List Int) (f : Bool) (K : Bool → Option β), ptk l f K = K (f || !nums? l)
  | [], f, K => by simp [ptk, nums?]
  | x :: r, f, K => by
    simp only [ptk, ptk_eq r, nums?]
    cases f with
    | true => simp
    | false =>
      by_cases h1 : x > 4611686018427387904
      · have : num x = false := by simp [num]; omega
        simp [h1, this]
      · by_cases h2 : x < -4611686018427387904
        · have : num x = false := by simp [num]; omega
          simp [h1, h2, this]
        · have : num x = true := by rw [num_iff]; omega
          simp [h1, h2, this]
theorem rtk_eq : ∀ (l : List Int) (f : Bool) (K : Bool → Option β), rtk l f K = K (f || !nums? l)
  | [], f, K => by simp [rtk, nums?]
  | x :: r, f, K => by
    simp only [rtk, rtk_eq r, nums?]
    by_cases h1 : x > 4611686018427387904
    · have : num x = false := by simp [num]; omega
      have e : decide (x ≤ 4611686018427387904) = false := by simp; omega
      rw [this, e]
      simp
    · by_cases h2 : x < -4611686018427387904
      · have : num x = false := by simp [num]; omega
        have e : decide (x ≥ -4611686018427387904) = false := by simp; omega
        rw [this, e]
        simp
      · have : num x = true := by rw [num_iff]; omega
        have e : decide (x ≤ 4611686018427387904) = true := by simp; omega
        have e2 : decide (x ≥ -4611686018427387904) = true := by simp; omega
        rw [this, e, e2]
        simp
/-- What comes behind take: nothing, or the ratio. -/
def thenR (e : TypeId) (pre : Int × Int × Int × Unit → Bool) (g : Bool → Int × Int × Int × Unit → Int × Bool) (a b c : Int) (f : Bool) : Option (AV × List Con) :=
  bif !!f then some (.val (.int .i64 0), row e f) else bif pre (a, b, c, ()) then some (.val (.int .i64 (g f (a, b, c, ())).1), row e (g f (a, b, c, ())).2) else none
theorem mul121 (pre : Int × Int × Int × Unit → Bool) (g : Bool → Int × Int × Int × Unit → Int × Bool) (x y : Int) (f : Bool) :
    fnSum Try.prog { gam := [(166, Sc 25 pre g)] } [] 20 121 [.ptr 0 0, .val (.int .i64 x), .val (.int .i64 y)] (row 25 f) = ptk [x, y] f (thenR 25 pre g x y 1099511627776) := by kernel_rfl
theorem div135 (pre : Int × Int × Int × Unit → Bool) (g : Bool → Int × Int × Int × Unit → Int × Bool) (x y : Int) (f : Bool) :
    fnSum Try.prog { gam := [(166, Sc 25 pre g)] } [] 20 135 [.ptr 0 0, .val (.int .i64 x), .val (.int .i64 y)] (row 25 f) = ptk [x, y] f (thenR 25 pre g x 1099511627776 y) := by kernel_rfl
theorem part116 (pre : Int × Int × Int × Unit → Bool) (g : Bool → Int × Int × Int × Unit → Int × Bool) (x y z : Int) (f : Bool) :
    fnSum Try.prog { gam := [(166, Sc 25 pre g)] } [] 20 116 [.ptr 0 0, .val (.int .i64 x), .val (.int .i64 y), .val (.int .i64 z)] (row 25 f) = ptk [x, y, z] f (thenR 25 pre g x y z) := by kernel_rfl
theorem mul122 (pre : Int × Int × Int × Unit → Bool) (g : Bool → Int × Int × Int × Unit → Int × Bool) (x y : Int) (f : Bool) :
    fnSum Try.prog { gam := [(168, Sc 27 pre g)] } [] 20 122 [.ptr 0 0, .val (.int .i64 x), .val (.int .i64 y)] (row 27 f) = rtk [x, y] f (thenR 27 pre g x y 1099511627776) := by kernel_rfl
theorem div140 (pre : Int × Int × Int × Unit → Bool) (g : Bool → Int × Int × Int × Unit → Int × Bool) (x y : Int) (f : Bool) :
    fnSum Try.prog { gam := [(168, Sc 27 pre g)] } [] 20 140 [.ptr 0 0, .val (.int .i64 x), .val (.int .i64 y)] (row 27 f) = rtk [x, y] f (thenR 27 pre g x 1099511627776 y) := by kernel_rfl
theorem part118 (pre : Int × Int × Int × Unit → Bool) (g : Bool → Int × Int × Int × Unit → Int × Bool) (x y z : Int) (f : Bool) :
    fnSum Try.prog { gam := [(168, Sc 27 pre g)] } [] 20 118 [.ptr 0 0, .val (.int .i64 x), .val (.int .i64 y), .val (.int .i64 z)] (row 27 f) = rtk [x, y, z] f (thenR 27 pre g x y z) := by kernel_rfl
def fpart (f : Bool) (a b c : Int) : Int × Bool := bif f || !nums? [a, b, c] then (0, true) else fratio false a b c
def fmul (f : Bool) (a b : Int) : Int × Bool := bif f || !nums? [a, b] then (0, true) else fratio false a b 1099511627776
def fdiv (f : Bool) (a b : Int) : Int × Bool := bif f || !nums? [a, b] then (0, true) else fratio false a 1099511627776 b
def ratV (f : Bool) (p : Int × Int × Int × Unit) : Int × Bool := fratio f p.1 p.2.1 p.2.2.1
theorem thenR_eq {e : TypeId} {a b c : Int} {bad : Bool} (h : bad = false → num3 (a, b, c, ()) = true) :
    thenR e num3 ratV a b c bad = some (.val (.int .i64 (bif bad then ((0 : Int), true) else fratio false a b c).1), row e (bif bad then ((0 : Int), true) else fratio false a b c).2) := by
  unfold thenR
  cases bad with
  | true => rfl
  | false => rw [h rfl]; rfl
theorem mulVal_eq (e : TypeId) (x y : Int) (f : Bool) : thenR e num3 ratV x y 1099511627776 (f || !nums? [x, y]) = some (.val (.int .i64 (fmul f x y).1), row e (fmul f x y).2) :=
  thenR_eq fun h => by
    simp only [Bool.or_eq_false_iff, Bool.not_eq_false', nums?, Bool.and_true, Bool.and_eq_true] at h
    simp only [num3, Bool.and_eq_true]
    exact ⟨h.2.1, h.2.2, by decide⟩
theorem divVal_eq (e : TypeId) (x y : Int) (f : Bool) : thenR e num3 ratV x 1099511627776 y (f || !nums? [x, y]) = some (.val (.int .i64 (fdiv f x y).1), row e (fdiv f x y).2) :=
  thenR_eq fun h => by
    simp only [Bool.or_eq_false_iff, Bool.not_eq_false', nums?, Bool.and_true, Bool.and_eq_true] at h
    simp only [num3, Bool.and_eq_true]
    exact ⟨h.2.1, by decide, h.2.2⟩
theorem partVal_eq (e : TypeId) (x y z : Int) (f : Bool) : thenR e num3 ratV x y z (f || !nums? [x, y, z]) = some (.val (.int .i64 (fpart f x y z).1), row e (fpart f x y z).2) :=
  thenR_eq fun h => by
    simp only [Bool.or_eq_false_iff, Bool.not_eq_false', nums?, Bool.and_true, Bool.and_eq_true] at h
    simp only [num3, Bool.and_eq_true]
    exact ⟨h.2.1, h.2.2.1, h.2.2.2⟩
theorem gam166 : GamOk Try.prog [(166, Sc 25 num3 ratV)] := .cons ok166 .nil
theorem ok121 : SumOk Try.prog 121 (S 25 (op2 fmul)) := S_ok (E := { gam := [(166, Sc 25 num3 ratV)] }) gam166 20 fun f p => by
  obtain ⟨x, y, _⟩ := p
  exact ((mul121 num3 ratV x y f).trans (ptk_eq _ _ _)).trans (mulVal_eq 25 x y f)
theorem ok135 : SumOk Try.prog 135 (S 25 (op2 fdiv)) := S_ok (E := { gam := [(166, Sc 25 num3 ratV)] }) gam166 20 fun f p => by
  obtain ⟨x, y, _⟩ := p
  exact ((div135 num3 ratV x y f).trans (ptk_eq _ _ _)).trans (divVal_eq 25 x y f)
theorem ok116 : SumOk Try.prog 116 (S 25 (op3 fpart)) := S_ok (E := { gam := [(166, Sc 25 num3 ratV)] }) gam166 20 fun f p => by
  obtain ⟨x, y, z, _⟩ := p
  exact ((part116 num3 ratV x y z f).trans (ptk_eq _ _ _)).trans (partVal_eq 25 x y z f)
end Go.Ab
/- The document's Times: a product, bit by bit. -/
namespace Go.Ab
open Go Go.Proofs
theorem addTree (a b : Wd) : fnSum Try.prog { gam := [] } [] 20 178 [.val (Cod.enc a), .val (Cod.enc b)] [] =
    bif decide (IntKind.u64.wrap (a.l + b.l) < a.l) then some (.val (Cod.enc (Wd.mk (IntKind.u64.wrap (IntKind.u64.wrap (a.h + b.h) + 1)) (IntKind.u64.wrap (a.l + b.l)))), [])
    else some (.val (Cod.enc (Wd.mk (IntKind.u64.wrap (a.h + b.h)) (IntKind.u64.wrap (a.l + b.l)))), []) := by kernel_rfl
def adV (p : Wd × Wd × Unit) : Wd :=
  bif decide (IntKind.u64.wrap (p.1.l + p.2.1.l) < p.1.l) then ⟨IntKind.u64.wrap (IntKind.u64.wrap (p.1.h + p.2.1.h) + 1), IntKind.u64.wrap (p.1.l + p.2.1.l)⟩ else ⟨IntKind.u64.wrap (p.1.h + p.2.1.h), IntKind.u64.wrap (p.1.l + p.2.1.l)⟩
theorem ok178 : SumOk Try.prog 178 (S0 adV) := by
  refine S0_ok (E := { gam := [] }) GamOk.nil 20 fun p => ?_
  obtain ⟨a, b, _⟩ := p
  refine (addTree a b).trans ?_
  unfold adV
  dsimp only
  cases decide (IntKind.u64.wrap (a.l + b.l) < a.l) <;> rfl
def Wd.ok (a : Wd) : Bool := word a.h && word a.l
def Wd.val (a : Wd) : Int := a.h * 18446744073709551616 + a.l
theorem adV_val {a b : Wd} (ha : a.ok = true) (hb : b.ok = true) : (adV (a, b, ())).ok = true ∧ (adV (a, b, ())).val = (a.val + b.val) % 340282366920938463463374607431768211456 := by
  simp only [Wd.ok, word, Bool.and_eq_true, decide_eq_true_eq] at ha hb
  unfold adV
  dsimp only
  simp only [wrap_u64]
  by_cases h : (a.l + b.l) % 18446744073709551616 < a.l
  · simp only [h, decide_true, cond_true, Wd.ok, Wd.val, word, Bool.and_eq_true, decide_eq_true_eq]
    omega
  · simp only [h, decide_false, cond_false, Wd.ok, Wd.val, word, Bool.and_eq_true, decide_eq_true_eq]
    omega
def tmRows : Rows' := [(4096, 171, [.u64, .u64]), (1532495540865888858358347027150309183618739122183606272, 171, [.u64, .u64]), (3064991081731777716716694054300618367237478244367208448, 171, [.u64, .u64])]
def tmFx : List (Nat × Nat × Nat) := [(4, 4096, 0), (5, 1532495540865888858358347027150309183618739122183606272, 0), (6, 3064991081731777716716694054300618367237478244367208448, 0)]
def tmSl : Slots := [(1, .int .u64)]
def termEnd (b : Nat) (t : Wd) : Wd := if h : b = 0 then t else termEnd (b / 2) (adV (t, t, ()))
termination_by b
def tpre : List Int → Bool
  | [b, _, _, s1, s2, t1, t2] => word b && ((Wd.mk s1 s2).ok && ((Wd.mk t1 t2).ok && decide ((Wd.mk s1 s2).val + (Wd.mk t1 t2).val * b < 340282366920938463463374607431768211456)))
  | _ => false
def tpostV (A B C D : Int → Int → Int → Int → Int → Int) : List Int → List Int
  | [b, z1, z2, s1, s2, t1, t2] => [0, z1, z2, A b s1 s2 t1 t2, B b s1 s2 t1 t2, C b s1 s2 t1 t2, D b s1 s2 t1 t2]
  | l => l
def tpost : List Int → List Int := tpostV (fun b s1 s2 t1 t2 => ((Wd.mk s1 s2).val + (Wd.mk t1 t2).val * b) / 18446744073709551616) (fun b s1 s2 t1 t2 => ((Wd.mk s1 s2).val + (Wd.mk t1 t2).val * b) % 18446744073709551616)
  (fun b _ _ t1 t2 => (termEnd b.toNat ⟨t1, t2⟩).h) (fun b _ _ t1 t2 => (termEnd b.toNat ⟨t1, t2⟩).l)
theorem timesRound (ad : Wd × Wd × Unit → Wd) (b z1 z2 s1 s2 t1 t2 : Int) (x : Nat → AV) (lo hi step : Nat) :
    run Try.prog (callN Try.prog { gam := [(178, S0 ad)] } 1) 24 { quiet := isSum [(178, S0 ad)] } [] 50 (Ex × St) (loopOf (blkOf Try.f172 0)) (lqSt 24 tmSl tmFx (nums 10 14) tmRows [b, z1, z2, s1, s2, t1, t2] x lo hi step) (fun e s' => some (e, maskSt (nums 10 14) s')) =
      bif decide (b > 0) then
        bif b.tmod 2 == 1 then some (.normal, lqSt 24 tmSl tmFx (nums 10 14) tmRows [IntKind.u64.wrap (b.tdiv 2), z1, z2, (ad (⟨s1, s2⟩, ⟨t1, t2⟩, ())).h, (ad (⟨s1, s2⟩, ⟨t1, t2⟩, ())).l, (ad (⟨t1, t2⟩, ⟨t1, t2⟩, ())).h, (ad (⟨t1, t2⟩, ⟨t1, t2⟩, ())).l] x lo hi step)
        else some (.normal, lqSt 24 tmSl tmFx (nums 10 14) tmRows [IntKind.u64.wrap (b.tdiv 2), z1, z2, s1, s2, (ad (⟨t1, t2⟩, ⟨t1, t2⟩, ())).h, (ad (⟨t1, t2⟩, ⟨t1, t2⟩, ())).l] x lo hi step)
      else some (.exit 0, lqSt 24 tmSl tmFx (nums 10 14) tmRows [b, z1, z2, s1, s2, t1, t2] x lo hi step) := by kernel_rfl
theorem timesTree (ad : Wd × Wd × Unit → Wd) (p : List Int → Bool) (A B C D : Int → Int → Int → Int → Int → Int) (a b : Int) :
    fnSum Try.prog { gam := [(178, S0 ad)] } [(0, lqHint 24 tmSl tmFx (nums 10 14) tmRows p (tpostV A B C D))] 20 172 [.val (.int .u64 a), .val (.int .u64 b)] [] =
      bif p [b, 0, 0, 0, 0, 0, a] then some (.val (Cod.enc (Wd.mk (A b 0 0 0 a) (B b 0 0 0 a))), []) else none := by kernel_rfl
end Go.Ab
/- The document's Times is the product. -/
namespace Go.Ab
open Go Go.Proofs
theorem timesStep {b z1 z2 s1 s2 t1 t2 : Int} (hp : tpre [b, z1, z2, s1, s2, t1, t2] = true) :
    (b > 0 → ∀ u : Wd, u = (bif b.tmod 2 == 1 then adV (⟨s1, s2⟩, ⟨t1, t2⟩, ()) else ⟨s1, s2⟩) →
      tpre [IntKind.u64.wrap (b.tdiv 2), z1, z2, u.h, u.l, (adV (⟨t1, t2⟩, ⟨t1, t2⟩, ())).h, (adV (⟨t1, t2⟩, ⟨t1, t2⟩, ())).l] = true ∧
      tpost [IntKind.u64.wrap (b.tdiv 2), z1, z2, u.h, u.l, (adV (⟨t1, t2⟩, ⟨t1, t2⟩, ())).h, (adV (⟨t1, t2⟩, ⟨t1, t2⟩, ())).l] = tpost [b, z1, z2, s1, s2, t1, t2] ∧
      (IntKind.u64.wrap (b.tdiv 2)).toNat < b.toNat) ∧
    (¬ b > 0 → tpost [b, z1, z2, s1, s2, t1, t2] = [b, z1, z2, s1, s2, t1, t2]) := by
  simp only [tpre, Bool.and_eq_true, decide_eq_true_eq] at hp
  obtain ⟨hb, hs, ht, hlt⟩ := hp
  simp only [word, decide_eq_true_eq] at hb
  obtain ⟨hb0, hb1⟩ := hb
  refine ⟨fun hpos u hu => ?_, fun hz => ?_⟩
  · have e1 : b.tdiv 2 = b / 2 := Int.tdiv_eq_ediv_of_nonneg hb0
    have e2 : b.tmod 2 = b % 2 := Int.tmod_eq_emod_of_nonneg hb0
    have e3 : IntKind.u64.wrap (b / 2) = b / 2 := wrap_u64_id (by omega) (by omega)
    rw [e1, e3]
    rw [e2] at hu
    obtain ⟨k1, k2⟩ := adV_val ht ht
    obtain ⟨k3, k4⟩ := adV_val hs ht
    have ht' := ht
    have hs' := hs
    simp only [Wd.ok, word, Bool.and_eq_true, decide_eq_true_eq] at ht' hs'
    have hT0 : 0 ≤ (Wd.mk t1 t2).val := by simp only [Wd.val]; omega
    have hS0 : 0 ≤ (Wd.mk s1 s2).val := by simp only [Wd.val]; omega
    have hT1 : (Wd.mk t1 t2).val < 340282366920938463463374607431768211456 := by simp only [Wd.val]; omega
    have hterm : termEnd b.toNat ⟨t1, t2⟩ = termEnd (b / 2).toNat (adV (⟨t1, t2⟩, ⟨t1, t2⟩, ())) := by
      rw [termEnd, dif_neg (by omega)]
      congr 1
      omega
    generalize hTT : (Wd.mk t1 t2).val = T at *
    generalize hSS : (Wd.mk s1 s2).val = Sv at *
    generalize hD : adV (⟨t1, t2⟩, ⟨t1, t2⟩, ()) = D at *
    have hTb : T * b = 2 * (T * (b / 2)) + T * (b % 2) := by
      have : b = 2 * (b / 2) + b % 2 := by omega
      calc T * b = T * (2 * (b / 2) + b % 2) := by rw [← this]
        _ = 2 * (T * (b / 2)) + T * (b % 2) := by rw [Int.mul_add, Int.mul_left_comm]
    have hTh0 : 0 ≤ T * (b / 2) := Int.mul_nonneg hT0 (by omega)
    -- the sum
    have hu1 : u.ok = true ∧ u.val = Sv + T * (b % 2) := by
      rcases Int.emod_two_eq b with h | h
      · rw [h] at hu
        have : u = ⟨s1, s2⟩ := hu
        subst this
        exact ⟨hs, by rw [hSS, h]; omega⟩
      · rw [h] at hu
        have : u = adV (⟨s1, s2⟩, ⟨t1, t2⟩, ()) := hu
        subst this
        refine ⟨k3, ?_⟩
        rw [k4, h, Int.mul_one]
        rw [h, Int.mul_one] at hTb
        omega
    obtain ⟨hu1, hu2⟩ := hu1
    -- the term
    have hD2 : D.val * (b / 2) = 2 * (T * (b / 2)) := by
      by_cases hb2 : b / 2 = 0
      · rw [hb2]; omega
      · have h1 : T * 1 ≤ T * (b / 2) := Int.mul_le_mul_of_nonneg_left (by omega) hT0
        have h2 : 0 ≤ T * (b % 2) := Int.mul_nonneg hT0 (by omega)
        have : D.val = 2 * T := by rw [k2]; omega
        rw [this, Int.mul_assoc]
    have hsum : u.val + D.val * (b / 2) = Sv + T * b := by rw [hu2, hD2, hTb]; omega
    refine ⟨?_, ?_, by omega⟩
    · simp only [tpre, Bool.and_eq_true, decide_eq_true_eq]
      refine ⟨by simp only [word, decide_eq_true_eq]; omega, hu1, k1, ?_⟩
      show u.val + D.val * (b / 2) < _
      rw [hsum]; exact hlt
    · simp only [tpost, tpostV]
      have h1 : (Wd.mk u.h u.l).val + (Wd.mk D.h D.l).val * (b / 2) = Sv + T * b := hsum
      rw [h1, hTT, hSS, hterm]
  · have hb : b = 0 := by omega
    subst hb
    simp only [tpost, tpostV]
    have h1 : termEnd (Int.toNat 0) ⟨t1, t2⟩ = ⟨t1, t2⟩ := by rw [termEnd]; rfl
    rw [h1]
    simp only [Wd.ok, word, Bool.and_eq_true, decide_eq_true_eq] at hs
    simp only [Int.mul_zero, Int.add_zero, Wd.val]
    rw [show (s1 * 18446744073709551616 + s2) / 18446744073709551616 = s1 by omega, show (s1 * 18446744073709551616 + s2) % 18446744073709551616 = s2 by omega]
def tmHints : Hints := [(0, lqHint 24 tmSl tmFx (nums 10 14) tmRows tpre tpost)]
theorem tmBlocks : blocksOf (Try.f172.body.getD .skip) = [(0, .loop (loopOf (blkOf Try.f172 0))), (1, blkOf Try.f172 1)] := by kernel_rfl
theorem tmFit : ∀ fn c, Try.prog.funcs[172]? = some fn → fn.body = some c → HFit Try.prog fn.ntmps tmHints c := by
  intro fn c hf hb
  rw [Try.func172] at hf
  cases hf
  have hn : Try.f172.ntmps = 24 := by kernel_rfl
  have hc : Try.f172.body.getD .skip = c := by rw [hb]; rfl
  rw [hn]
  have hL := tmBlocks
  rw [hc] at hL
  have hcall : ∀ β, CallOk Try.prog (callN Try.prog { gam := [(178, S0 adV)] } 1 β) := callN_ok (.cons ok178 .nil) 1
  refine HFit.of fun p hp h hh s s' hs => ?_
  rw [hL] at hp
  simp only [List.mem_cons, List.not_mem_nil, or_false] at hp
  rcases hp with rfl | rfl
  · have : h = lqHint 24 tmSl tmFx (nums 10 14) tmRows tpre tpost := (Option.some.inj hh).symm
    subst this
    refine lq_ok hcall (F := 50) (wy := { quiet := isSum [(178, S0 adV)] }) (fun xs => (xs.getD 0 0).toNat) ?_ s s' hs
    intro xs hlen hpre x lo hi step
    obtain ⟨b, z1, z2, s1, s2, t1, t2, rfl⟩ : ∃ b z1 z2 s1 s2 t1 t2, xs = [b, z1, z2, s1, s2, t1, t2] := by
      match xs, hlen with
      | [a, b, c, d, e, f, g], _ => exact ⟨a, b, c, d, e, f, g, rfl⟩
    obtain ⟨h1, h2⟩ := timesStep hpre
    rw [timesRound]
    by_cases hb : b > 0
    · obtain ⟨k1, k2, k3⟩ := h1 hb _ rfl
      simp only [hb, decide_true, cond_true]
      refine .inl ⟨_, ?_, k1, ?_, k2, ?_⟩
      · rfl
      · simpa only [List.getD_cons_zero] using k3
      · cases b.tmod 2 == 1 <;> rfl
    · simp only [hb, decide_false, cond_false]
      refine .inr ?_
      rw [h2 hb]
  · simp [findH, tmHints] at hh
def timesVal (p : U6 × U6 × Unit) : Wd := ⟨p.1.n * p.2.1.n / 18446744073709551616, p.1.n * p.2.1.n % 18446744073709551616⟩
theorem ok172 : SumOk Try.prog 172 (S0c mulPre timesVal) := by
  have hG : GamOk Try.prog [(178, S0 adV)] := .cons ok178 .nil
  refine S0c_okH (E := { gam := [(178, S0 adV)] }) hG (hB := tmHints) tmFit 20 fun p hp => ?_
  obtain ⟨⟨a⟩, ⟨b⟩, _⟩ := p
  refine (timesTree adV tpre (fun b s1 s2 t1 t2 => ((Wd.mk s1 s2).val + (Wd.mk t1 t2).val * b) / 18446744073709551616) (fun b s1 s2 t1 t2 => ((Wd.mk s1 s2).val + (Wd.mk t1 t2).val * b) % 18446744073709551616)
    (fun b _ _ t1 t2 => (termEnd b.toNat ⟨t1, t2⟩).h) (fun b _ _ t1 t2 => (termEnd b.toNat ⟨t1, t2⟩).l) a b).trans ?_
  simp only [mulPre, Bool.and_eq_true] at hp
  obtain ⟨ha, hb⟩ := hp
  have ha' := ha
  have hb' := hb
  simp only [word, decide_eq_true_eq] at ha' hb'
  have hab : a * b ≤ 18446744073709551615 * 18446744073709551615 := Int.le_trans (Int.mul_le_mul_of_nonneg_right (by omega) hb'.1) (Int.mul_le_mul_of_nonneg_left (by omega) (by omega))
  have hv : (Wd.mk 0 0).val + (Wd.mk 0 a).val * b = a * b := by simp [Wd.val]
  have hpre : tpre [b, 0, 0, 0, 0, 0, a] = true := by
    simp only [tpre, Bool.and_eq_true, decide_eq_true_eq, hv]
    refine ⟨hb, by decide, ?_, by omega⟩
    simp only [Wd.ok, ha, Bool.and_true]
    decide
  rw [hpre, cond_true, hv]
  rfl
end Go.Ab
/- The document's Over: a quotient, and what is left, bit by bit. -/
namespace Go.Ab
open Go Go.Proofs
def ovSl : Slots := [(1, .int .u64), (7, .int .u64), (8, .int .u64), (9, .int .i64)]
def ovFx : List (Nat × Nat × Nat) := [(2, 4096, 0)]
def ovRows : Rows' := [(4096, 171, [.u64, .u64])]
def ovG : List Nat := 10 :: nums 21 30
def ovNext (lf al i : Int) : Int := orI (shI lf 1) (andI (srI al i) 1)
def ovSt (b lf q i ah al : Int) (x : Nat → AV) (lo hi step : Nat) : St := lqSt 51 ovSl ovFx ovG ovRows [b, lf, q, i, ah, al] x lo hi step
theorem overRound (b lf q i ah al : Int) (x : Nat → AV) (lo hi step : Nat) :
    run Try.prog (callN Try.prog { gam := [] } 1) 51 {} [] 50 (Ex × St) (loopOf (blkOf Try.f186 0)) (ovSt b lf q i ah al x lo hi step) (fun e s' => some (e, maskSt ovG s')) =
      bif decide (i ≥ 0) then bif decide (i < 0) then none else
        bif srI lf 63 == 1 then some (.normal, ovSt b (IntKind.u64.wrap (ovNext lf al i - b)) (IntKind.u64.wrap (shI q 1 + 1)) (IntKind.i64.wrap (i - 1)) ah al x lo hi step)
        else bif decide (ovNext lf al i ≥ b) then some (.normal, ovSt b (IntKind.u64.wrap (ovNext lf al i - b)) (IntKind.u64.wrap (shI q 1 + 1)) (IntKind.i64.wrap (i - 1)) ah al x lo hi step)
        else some (.normal, ovSt b (ovNext lf al i) (shI q 1) (IntKind.i64.wrap (i - 1)) ah al x lo hi step)
      else some (.exit 0, ovSt b lf q i ah al x lo hi step) := by kernel_rfl
def ovPostV (A B : Int → Int → Int → Int → Int → Int) : List Int → List Int
  | [b, lf, q, i, ah, al] => [b, A b lf q i al, B b lf q i al, -1, ah, al]
  | l => l
theorem overTree (p : List Int → Bool) (A B : Int → Int → Int → Int → Int → Int) (a : Wd) (b : Int) :
    fnSum Try.prog { gam := [] } [(0, lqHint 51 ovSl ovFx ovG ovRows p (ovPostV A B))] 20 186 [.val (Cod.enc a), .val (.int .u64 b)] [] =
      bif b == 0 then some (.val (.tuple #[.int .u64 0, .int .u64 0, .bool false]), []) else bif decide (a.h ≥ b) then some (.val (.tuple #[.int .u64 0, .int .u64 0, .bool false]), []) else
        bif p [b, a.h, 0, 63, a.h, a.l] then some (.val (.tuple #[.int .u64 (B b a.h 0 63 a.l), .int .u64 (A b a.h 0 63 a.l), .bool true]), []) else none := by kernel_rfl
end Go.Ab
/- The document's Over is the quotient and what is left. -/
namespace Go.Ab
open Go Go.Proofs
theorem andI_one (a : Int) (h0 : 0 ≤ a) (h1 : a < 18446744073709551616) : andI a 1 = a % 2 := by
  unfold andI
  have e : (BitVec.ofInt IntKind.u64.bits a &&& BitVec.ofInt IntKind.u64.bits 1).toNat = a.toNat % 2 := by
    rw [BitVec.toNat_and, BitVec.toNat_ofInt, BitVec.toNat_ofInt]
    have e1 : (a % ((2 ^ IntKind.u64.bits : Nat) : Int)).toNat = a.toNat := by
      rw [show ((2 ^ IntKind.u64.bits : Nat) : Int) = 18446744073709551616 by decide, Int.emod_eq_of_lt h0 h1]
    have e2 : ((1 : Int) % ((2 ^ IntKind.u64.bits : Nat) : Int)).toNat = 2 ^ 1 - 1 := by decide
    rw [e1, e2, Nat.and_two_pow_sub_one_eq_mod]
  rw [e, wrap_u64_id (by omega) (by omega)]
  omega
theorem ovNext_eq {lf al : Int} {n : Nat} (hn : n < 64) (a0 : 0 ≤ al) (a1 : al < 18446744073709551616) : ovNext lf al n = lf * 2 % 18446744073709551616 + al / 2 ^ n % 2 := by
  have hz : (0 : Int) < 2 ^ n := Int.pow_pos (by omega)
  have b0 : 0 ≤ al / 2 ^ n := Int.ediv_nonneg a0 (by omega)
  have b1 : al / 2 ^ n ≤ al := Int.ediv_le_self _ a0
  unfold ovNext
  have e1 : shI lf 1 = lf * 2 % 18446744073709551616 := shI_eq lf 1 (by omega)
  rw [e1, srI_eq al n (by omega), andI_one _ b0 (by omega)]
  have e2 : lf * 2 % 18446744073709551616 = lf % 9223372036854775808 * 2 ^ 1 := by omega
  rw [e2]
  exact orI_eq _ _ 1 (by omega) (by omega) (by omega) (by omega)
def ovT (lf al : Int) (k : Nat) : Int := lf * 2 ^ k + al % 2 ^ k
def opre : List Int → Bool
  | [b, lf, q, i, _, al] => decide (0 ≤ lf ∧ lf < b ∧ b < 18446744073709551616 ∧ 0 ≤ al ∧ al < 18446744073709551616 ∧ -1 ≤ i ∧ i ≤ 63 ∧ 0 ≤ q ∧ (q + 1) * 2 ^ (i + 1).toNat ≤ 18446744073709551616)
  | _ => false
def opost : List Int → List Int := ovPostV (fun b lf _ i al => ovT lf al (i + 1).toNat % b) (fun b lf q i al => q * 2 ^ (i + 1).toNat + ovT lf al (i + 1).toNat / b)
theorem ovT_step (lf al : Int) (n : Nat) : ovT lf al (n + 1) = (lf * 2 + al / 2 ^ n % 2) * 2 ^ n + al % 2 ^ n := by
  unfold ovT
  have hz : (0 : Int) < 2 ^ n := Int.pow_pos (by omega)
  have h1 : al % 2 ^ (n + 1) = al / 2 ^ n % 2 * 2 ^ n + al % 2 ^ n := by
    have e3 : al = al / 2 ^ n * 2 ^ n + al % 2 ^ n := (Int.ediv_mul_add_emod al _).symm
    have e4 : al / 2 ^ n = al / 2 ^ n / 2 * 2 + al / 2 ^ n % 2 := by omega
    have r0 := Int.emod_nonneg al (b := 2 ^ n) (by omega)
    have r1 := Int.emod_lt_of_pos al hz
    have hp : (2 : Int) ^ (n + 1) = 2 * 2 ^ n := by rw [Int.pow_succ, Int.mul_comm]
    have b0 : 0 ≤ al / 2 ^ n % 2 := by omega
    have b1 : al / 2 ^ n % 2 ≤ 1 := by omega
    have hb : al / 2 ^ n % 2 * 2 ^ n ≤ 1 * 2 ^ n := Int.mul_le_mul_of_nonneg_right b1 (by omega)
    have hb0 : 0 ≤ al / 2 ^ n % 2 * 2 ^ n := Int.mul_nonneg b0 (by omega)
    have e5 : al = al / 2 ^ n / 2 * 2 ^ (n + 1) + (al / 2 ^ n % 2 * 2 ^ n + al % 2 ^ n) := by
      rw [hp, ← Int.mul_assoc, ← Int.add_assoc, ← Int.add_mul, ← e4]; exact e3
    conv => lhs; rw [e5]
    rw [Int.add_comm (al / 2 ^ n / 2 * 2 ^ (n + 1)), Int.add_mul_emod_self_right]
    exact Int.emod_eq_of_lt (by omega) (by omega)
  rw [h1, Int.add_mul, Int.pow_succ]
  have : lf * (2 ^ n * 2) = lf * 2 * 2 ^ n := by rw [Int.mul_assoc, Int.mul_comm 2]
  rw [this, Int.add_assoc]
end Go.Ab
/- The document's Over: its summary. -/
namespace Go.Ab
open Go Go.Proofs
theorem overNext {b lf q ah al lf' q' : Int} {n : Nat} (hn : n < 64) (hp : opre [b, lf, q, n, ah, al] = true)
    (h : (lf' = lf * 2 + al / 2 ^ n % 2 - b ∧ q' = q * 2 + 1 ∧ b ≤ lf * 2 + al / 2 ^ n % 2) ∨ (lf' = lf * 2 + al / 2 ^ n % 2 ∧ q' = q * 2 ∧ lf * 2 + al / 2 ^ n % 2 < b)) :
    opre [b, lf', q', (n : Int) - 1, ah, al] = true ∧ opost [b, lf', q', (n : Int) - 1, ah, al] = opost [b, lf, q, n, ah, al] := by
  simp only [opre, decide_eq_true_eq] at hp
  obtain ⟨a1, a2, a3, a4, a5, a6, a7, a8, a9⟩ := hp
  have ek : ((n : Int) + 1).toNat = n + 1 := by omega
  have ek2 : ((n : Int) - 1 + 1).toNat = n := by omega
  rw [ek] at a9
  have hz : (0 : Int) < 2 ^ n := Int.pow_pos (by omega)
  have hp2 : (2 : Int) ^ (n + 1) = 2 * 2 ^ n := by rw [Int.pow_succ, Int.mul_comm]
  have hq : (q + 1) * 2 ^ (n + 1) = (q * 2 + 2) * 2 ^ n := by rw [hp2, ← Int.mul_assoc, Int.add_mul, Int.one_mul]
  rw [hq] at a9
  simp only [opre, decide_eq_true_eq, opost, ovPostV, ek, ek2]
  rw [ovT_step]
  have hb0 : b ≠ 0 := by omega
  rcases h with ⟨rfl, rfl, h3⟩ | ⟨rfl, rfl, h3⟩
  · have hT : (lf * 2 + al / 2 ^ n % 2) * 2 ^ n + al % 2 ^ n = ovT (lf * 2 + al / 2 ^ n % 2 - b) al n + 2 ^ n * b := by
      unfold ovT
      rw [Int.sub_mul, Int.mul_comm b]
      omega
    rw [hT, Int.add_mul_emod_self_right, Int.add_mul_ediv_right _ _ hb0]
    refine ⟨⟨by omega, by omega, a3, a4, a5, by omega, by omega, by omega, ?_⟩, ?_⟩
    · rw [show q * 2 + 1 + 1 = q * 2 + 2 by omega]; exact a9
    · rw [show (q * 2 + 1) * 2 ^ n = q * 2 ^ (n + 1) + 2 ^ n by rw [hp2, Int.add_mul, Int.one_mul, Int.mul_assoc]]
      rw [show q * 2 ^ (n + 1) + 2 ^ n + ovT (lf * 2 + al / 2 ^ n % 2 - b) al n / b = q * 2 ^ (n + 1) + (ovT (lf * 2 + al / 2 ^ n % 2 - b) al n / b + 2 ^ n) by omega]
  · have hT : (lf * 2 + al / 2 ^ n % 2) * 2 ^ n + al % 2 ^ n = ovT (lf * 2 + al / 2 ^ n % 2) al n := rfl
    rw [hT]
    refine ⟨⟨by omega, by omega, a3, a4, a5, by omega, by omega, by omega, ?_⟩, ?_⟩
    · refine Int.le_trans (Int.mul_le_mul_of_nonneg_right ?_ (by omega)) a9
      omega
    · rw [show q * 2 * 2 ^ n = q * 2 ^ (n + 1) by rw [hp2, Int.mul_assoc]]
def ovHints : Hints := [(0, lqHint 51 ovSl ovFx ovG ovRows opre opost)]
theorem ovBlocks : blocksOf (Try.f186.body.getD .skip) = [(0, .loop (loopOf (blkOf Try.f186 0))), (1, blkOf Try.f186 1)] := by kernel_rfl
theorem ovFit : ∀ fn c, Try.prog.funcs[186]? = some fn → fn.body = some c → HFit Try.prog fn.ntmps ovHints c := by
  intro fn c hf hb
  rw [Try.func186] at hf
  cases hf
  have hn : Try.f186.ntmps = 51 := by kernel_rfl
  have hc : Try.f186.body.getD .skip = c := by rw [hb]; rfl
  rw [hn]
  have hL := ovBlocks
  rw [hc] at hL
  have hcall : ∀ β, CallOk Try.prog (callN Try.prog { gam := [] } 1 β) := callN_ok GamOk.nil 1
  refine HFit.of fun p hp h hh s s' hs => ?_
  rw [hL] at hp
  simp only [List.mem_cons, List.not_mem_nil, or_false] at hp
  rcases hp with rfl | rfl
  · have : h = lqHint 51 ovSl ovFx ovG ovRows opre opost := (Option.some.inj hh).symm
    subst this
    refine lq_ok hcall (F := 50) (wy := {}) (fun xs => (xs.getD 3 0 + 1).toNat) ?_ s s' hs
    intro xs hlen hpre x lo hi step
    obtain ⟨b, lf, q, i, ah, al, rfl⟩ : ∃ b lf q i ah al, xs = [b, lf, q, i, ah, al] := by
      match xs, hlen with
      | [a, b, c, d, e, f], _ => exact ⟨a, b, c, d, e, f, rfl⟩
    have hr := overRound b lf q i ah al x lo hi step
    unfold ovSt at hr
    rw [hr]
    have hpre' := hpre
    simp only [opre, decide_eq_true_eq] at hpre'
    obtain ⟨a1, a2, a3, a4, a5, a6, a7, a8, a9⟩ := hpre'
    by_cases hi0 : i ≥ 0
    · obtain ⟨n, rfl⟩ : ∃ n : Nat, i = n := ⟨i.toNat, by omega⟩
      have hi1 : ¬ ((n : Int) < 0) := by omega
      simp only [hi0, hi1, decide_true, decide_false, cond_true, cond_false]
      rw [ovNext_eq (by omega) a4 a5, wrap_i64_id (by omega) (by omega)]
      have e63 : srI lf 63 = lf / 9223372036854775808 := srI_eq lf 63 (by omega)
      have eq1 : shI q 1 = q * 2 % 18446744073709551616 := shI_eq q 1 (by omega)
      have hz : (0 : Int) < 2 ^ n := Int.pow_pos (by omega)
      have hz1 : (1 : Int) ≤ 2 ^ n := by omega
      have ek : ((n : Int) + 1).toNat = n + 1 := by omega
      rw [ek] at a9
      have hp2 : (2 : Int) ^ (n + 1) = 2 * 2 ^ n := by rw [Int.pow_succ, Int.mul_comm]
      have hq2 : q * 2 + 2 ≤ 18446744073709551616 := by
        have h1 : (q * 2 + 2) * 1 ≤ (q * 2 + 2) * 2 ^ n := Int.mul_le_mul_of_nonneg_left hz1 (by omega)
        have h2 : (q + 1) * 2 ^ (n + 1) = (q * 2 + 2) * 2 ^ n := by rw [hp2, ← Int.mul_assoc, Int.add_mul, Int.one_mul]
        omega
      rw [e63, eq1, Int.emod_eq_of_lt (a := q * 2) (by omega) (by omega), wrap_u64_id (z := q * 2 + 1) (by omega) (by omega), wrap_u64]
      have step : ∀ lf' q' : Int, ((lf' = lf * 2 + al / 2 ^ n % 2 - b ∧ q' = q * 2 + 1 ∧ b ≤ lf * 2 + al / 2 ^ n % 2) ∨ (lf' = lf * 2 + al / 2 ^ n % 2 ∧ q' = q * 2 ∧ lf * 2 + al / 2 ^ n % 2 < b)) →
          ∃ ys, ys.length = shLen ovSl + rowLen ovRows ∧ opre ys = true ∧ (ys.getD 3 0 + 1).toNat < ([b, lf, q, (n : Int), ah, al].getD 3 0 + 1).toNat ∧ opost ys = opost [b, lf, q, (n : Int), ah, al] ∧
            (some (Ex.normal, lqSt 51 ovSl ovFx ovG ovRows [b, lf', q', (n : Int) - 1, ah, al] x lo hi step) : Option (Ex × St)) = some (.normal, lqSt 51 ovSl ovFx ovG ovRows ys x lo hi step) := by
        intro lf' q' h
        obtain ⟨k1, k2⟩ := overNext (by omega) hpre h
        exact ⟨_, rfl, k1, by simp only [List.getD_cons_succ, List.getD_cons_zero]; omega, k2, rfl⟩
      have hbit0 : 0 ≤ al / 2 ^ n % 2 := by omega
      have hbit1 : al / 2 ^ n % 2 ≤ 1 := by omega
      generalize hbit : al / 2 ^ n % 2 = t at *
      by_cases htop : lf / 9223372036854775808 = 1
      · simp only [htop, BEq.rfl, cond_true]
        rw [show (lf * 2 % 18446744073709551616 + t - b) % 18446744073709551616 = lf * 2 + t - b by omega]
        exact .inl (step _ _ (.inl ⟨rfl, rfl, by omega⟩))
      · have ht : (lf / 9223372036854775808 == 1) = false := by simp; exact htop
        rw [ht, cond_false]
        have e2 : lf * 2 % 18446744073709551616 = lf * 2 := by omega
        rw [e2]
        by_cases hge : lf * 2 + t ≥ b
        · simp only [hge, decide_true, cond_true]
          rw [show (lf * 2 + t - b) % 18446744073709551616 = lf * 2 + t - b by omega]
          exact .inl (step _ _ (.inl ⟨rfl, rfl, by omega⟩))
        · simp only [hge, decide_false, cond_false]
          exact .inl (step _ _ (.inr ⟨rfl, rfl, by omega⟩))
    · simp only [hi0, decide_false, cond_false]
      have : i = -1 := by omega
      subst this
      refine .inr ?_
      have hT : ovT lf al (-1 + 1 : Int).toNat = lf := by
        show lf * 2 ^ 0 + al % 2 ^ 0 = lf
        simp
      simp only [opost, ovPostV, hT]
      rw [Int.emod_eq_of_lt a1 a2, Int.ediv_eq_zero_of_lt a1 a2]
      have hqq : q * 2 ^ (-1 + 1 : Int).toNat + 0 = q := by
        show q * 2 ^ 0 + 0 = q
        simp
      rw [hqq]
  · simp [findH, ovHints] at hh
end Go.Ab
/- The document's ratio: its text's way. -/
namespace Go.Ab
open Go Go.Proofs
structure Three (α β γ : Type) where
  a : α
  b : β
  c : γ
instance {α β γ : Type} [Cod α] [Cod β] [Cod γ] : Cod (Three α β γ) where
  enc p := .tuple #[Cod.enc p.a, Cod.enc p.b, Cod.enc p.c]
  dec v := match v with
    | .tuple ⟨[a, b, c]⟩ => match Cod.dec a, Cod.dec b, Cod.dec c with | some x, some y, some z => some ⟨x, y, z⟩ | _, _, _ => none
    | _ => none
  law v a h := by
    split at h
    · split at h
      · rename_i h1 h2 h3
        cases h
        rw [Cod.law _ _ h1, Cod.law _ _ h2, Cod.law _ _ h3]
      · cases h
    · cases h
def overPre (p : Wd × U6 × Unit) : Bool := p.1.ok && word p.2.1.n
def overVal (p : Wd × U6 × Unit) : Three U6 U6 Bool :=
  bif p.2.1.n == 0 || decide (p.1.h ≥ p.2.1.n) then ⟨⟨0⟩, ⟨0⟩, false⟩ else ⟨⟨p.1.val / p.2.1.n⟩, ⟨p.1.val % p.2.1.n⟩, true⟩
theorem ok186 : SumOk Try.prog 186 (S0c overPre overVal) := by
  refine S0c_okH (E := { gam := [] }) GamOk.nil (hB := ovHints) ovFit 20 fun p hp => ?_
  obtain ⟨⟨ah, al⟩, ⟨b⟩, _⟩ := p
  refine (overTree opre (fun b lf _ i al => ovT lf al (i + 1).toNat % b) (fun b lf q i al => q * 2 ^ (i + 1).toNat + ovT lf al (i + 1).toNat / b) ⟨ah, al⟩ b).trans ?_
  simp only [overPre, Wd.ok, word, Bool.and_eq_true, decide_eq_true_eq] at hp
  unfold overVal
  dsimp only
  by_cases h0 : b = 0
  · subst h0; rfl
  have h0' : (b == 0) = false := by simp; exact h0
  rw [h0']
  by_cases h1 : ah ≥ b
  · simp only [h1, decide_true, cond_true, cond_false, Bool.or_true]; rfl
  simp only [h1, decide_false, cond_false, Bool.or_false]
  have hpre : opre [b, ah, 0, 63, ah, al] = true := by
    simp only [opre, decide_eq_true_eq]
    refine ⟨by omega, by omega, by omega, by omega, by omega, by omega, by omega, by omega, ?_⟩
    decide
  have hT : ovT ah al (63 + 1 : Int).toNat = (Wd.mk ah al).val := by
    show ah * 2 ^ 64 + al % 2 ^ 64 = ah * 18446744073709551616 + al
    have : (2 : Int) ^ 64 = 18446744073709551616 := by decide
    rw [this]
    omega
  rw [hpre, cond_true, hT]
  have : (0 : Int) * 2 ^ (63 + 1 : Int).toNat + (Wd.mk ah al).val / b = (Wd.mk ah al).val / b := by rw [Int.zero_mul, Int.zero_add]
  rw [this]
  rfl
def sgnTree {α : Type} (a b c : Int) (G : Bool → α) : α :=
  bif decide (a < 0) then (bif decide (b < 0) then (bif decide (c < 0) then G true else G false) else (bif decide (c < 0) then G false else G true))
  else (bif decide (b < 0) then (bif decide (c < 0) then G false else G true) else (bif decide (c < 0) then G true else G false))
theorem ratTree (mp : U6 × U6 × Unit → Bool) (mv : U6 × U6 × Unit → Wd) (op : Wd × U6 × Unit → Bool) (ov : Wd × U6 × Unit → Three U6 U6 Bool) (sz : Int × Unit → U6) (gv : Bool → U6 × Bool × Unit → Int × Bool) (a b c : Int) (f : Bool) :
    fnSum Try.prog { gam := [(172, S0c mp mv), (186, S0c op ov), (179, S0 sz), (174, S 27 gv)] } [] 20 168 [.ptr 0 0, .val (.int .i64 a), .val (.int .i64 b), .val (.int .i64 c)] (row 27 f) =
      let x := sz (a, ()); let y := sz (b, ()); let z := sz (c, ())
      let o := ov (Wd.mk (mv (⟨x.n⟩, ⟨y.n⟩, ())).h (mv (⟨x.n⟩, ⟨y.n⟩, ())).l, ⟨z.n⟩, ())
      let bad := some (AV.val (.int .i64 0), row 27 true)
      let G := fun (q : Int) (s : Bool) => some (AV.val (.int .i64 (gv f (⟨q⟩, s, ())).1), row 27 (gv f (⟨q⟩, s, ())).2)
      bif mp (⟨x.n⟩, ⟨y.n⟩, ()) then bif op (Wd.mk (mv (⟨x.n⟩, ⟨y.n⟩, ())).h (mv (⟨x.n⟩, ⟨y.n⟩, ())).l, ⟨z.n⟩, ()) then
        bif !o.c then bad else bif decide (o.a.n > 4611686018427387904) then bad else
          bif decide (o.b.n ≥ IntKind.u64.wrap (z.n - o.b.n)) then sgnTree a b c (G (IntKind.u64.wrap (o.a.n + 1))) else sgnTree a b c (G o.a.n)
      else none else none := by kernel_rfl
theorem size179 (a : Int) : fnSum Try.prog { gam := [] } [] 20 179 [.val (.int .i64 a)] [] =
    bif decide (a < 0) then some (.val (.int .u64 (IntKind.u64.wrap (IntKind.i64.wrap (0 - a)))), []) else some (.val (.int .u64 (IntKind.u64.wrap a)), []) := by kernel_rfl
theorem give174 (f s : Bool) (n : Int) : fnSum Try.prog { gam := [] } [] 20 174 [.ptr 0 0, .val (.int .u64 n), .val (.bool s)] (row 27 f) =
    bif decide (n > 4611686018427387904) then some (.val (.int .i64 0), row 27 true) else bif s then some (.val (.int .i64 (IntKind.i64.wrap (0 - IntKind.i64.wrap n))), row 27 f) else some (.val (.int .i64 (IntKind.i64.wrap n)), row 27 f) := by kernel_rfl
end Go.Ab
/- The document's ratio is the same rounded quotient. -/
namespace Go.Ab
open Go Go.Proofs
def szU (p : Int × Unit) : U6 := ⟨bif decide (p.1 < 0) then IntKind.u64.wrap (IntKind.i64.wrap (0 - p.1)) else IntKind.u64.wrap p.1⟩
def gvU (f : Bool) (p : U6 × Bool × Unit) : Int × Bool :=
  bif decide (p.1.n > 4611686018427387904) then (0, true) else (bif p.2.1 then IntKind.i64.wrap (0 - IntKind.i64.wrap p.1.n) else IntKind.i64.wrap p.1.n, f)
theorem ok179 : SumOk Try.prog 179 (S0 szU) := by
  refine S0_ok (E := { gam := [] }) GamOk.nil 20 fun a => ?_
  obtain ⟨a, _⟩ := a
  refine (size179 a).trans ?_
  unfold szU
  dsimp only
  cases decide (a < 0) <;> rfl
theorem ok174 : SumOk Try.prog 174 (S 27 gvU) := by
  refine S_ok (E := { gam := [] }) GamOk.nil 20 fun f a => ?_
  obtain ⟨⟨n⟩, s, _⟩ := a
  refine (give174 f s n).trans ?_
  unfold gvU
  dsimp only
  cases decide (n > 4611686018427387904) <;> cases s <;> rfl
theorem sgnTree_eq {α : Type} (a b c : Int) (G : Bool → α) : sgnTree a b c G = G (neg3 a b c) := by
  unfold sgnTree neg3
  cases decide (a < 0) <;> cases decide (b < 0) <;> cases decide (c < 0) <;> rfl
theorem szU_num {a : Int} (h : num a = true) : (szU (a, ())).n = iabs a := (szV_num h).1
theorem ok168 : SumOk Try.prog 168 (Sc 27 num3 ratV) := by
  have hG : GamOk Try.prog [(172, S0c mulPre timesVal), (186, S0c overPre overVal), (179, S0 szU), (174, S 27 gvU)] := .cons ok172 (.cons ok186 (.cons ok179 (.cons ok174 .nil)))
  refine Sc_ok (E := { gam := [(172, S0c mulPre timesVal), (186, S0c overPre overVal), (179, S0 szU), (174, S 27 gvU)] }) hG 20 fun f p hp => ?_
  obtain ⟨a, b, c, _⟩ := p
  simp only [num3, Bool.and_eq_true] at hp
  obtain ⟨ha, hb, hc⟩ := hp
  refine (ratTree mulPre timesVal overPre overVal szU gvU a b c f).trans ?_
  obtain ⟨a3, a4⟩ := iabs_num ha
  obtain ⟨b3, b4⟩ := iabs_num hb
  obtain ⟨c3, c4⟩ := iabs_num hc
  dsimp only
  rw [szU_num ha, szU_num hb, szU_num hc, sgnTree_eq, sgnTree_eq]
  have n0 : 0 ≤ iabs a * iabs b := Int.mul_nonneg a3 b3
  have n1 : iabs a * iabs b ≤ 4611686018427387904 * 4611686018427387904 := Int.le_trans (Int.mul_le_mul_of_nonneg_right a4 b3) (Int.mul_le_mul_of_nonneg_left b4 (by omega))
  have hm : mulPre (⟨iabs a⟩, ⟨iabs b⟩, ()) = true := by simp only [mulPre, word, Bool.and_eq_true, decide_eq_true_eq]; omega
  rw [hm, cond_true]
  unfold ratV fratio
  dsimp only
  have ht : timesVal (⟨iabs a⟩, ⟨iabs b⟩, ()) = ⟨iabs a * iabs b / 18446744073709551616, iabs a * iabs b % 18446744073709551616⟩ := rfl
  rw [ht]
  generalize iabs a * iabs b = N at *
  generalize iabs c = z at *
  have ho : overPre (⟨N / 18446744073709551616, N % 18446744073709551616⟩, ⟨z⟩, ()) = true := by
    simp only [overPre, Wd.ok, word, Bool.and_eq_true, decide_eq_true_eq]; omega
  rw [ho, cond_true]
  have hval : (Wd.mk (N / 18446744073709551616) (N % 18446744073709551616)).val = N := by simp only [Wd.val]; omega
  unfold overVal
  dsimp only
  rw [hval]
  by_cases hz : z = 0
  · subst hz
    rfl
  have hz' : (z == 0) = false := by simp; exact hz
  have hzp : 0 < z := by omega
  rw [hz']
  simp only [Bool.false_or]
  by_cases hh : N / 18446744073709551616 ≥ z
  · have : decide (N / z > 4611686018427387904) = true := by
      simp only [decide_eq_true_eq]
      have : 4611686018427387905 ≤ N / z := (Int.le_ediv_iff_mul_le hzp).2 (by omega)
      omega
    simp only [hh, this, decide_true, cond_true, Bool.true_or, Bool.not_false]
    rfl
  simp only [hh, decide_false, cond_false, Bool.not_true]
  have q0 : 0 ≤ N / z := Int.ediv_nonneg n0 (by omega)
  have r0 := Int.emod_nonneg N (b := z) (by omega)
  have r1 := Int.emod_lt_of_pos N hzp
  by_cases hq : N / z > 4611686018427387904
  · simp only [hq, decide_true, cond_true, Bool.true_or]
    rfl
  simp only [hq, decide_false, cond_false, Bool.false_or]
  rw [wrap_u64_id (z := z - N % z) (by omega) (by omega), wrap_u64_id (z := N / z + 1) (by omega) (by omega)]
  have fin : ∀ q : Int, 0 ≤ q → q ≤ 4611686018427387905 → gvU f (⟨q⟩, neg3 a b c, ()) = bif decide (q > 4611686018427387904) then ((0 : Int), true) else (bif neg3 a b c then 0 - q else q, f) := by
    intro q h0 h1
    unfold gvU
    dsimp only
    rw [wrap_i64_id (z := q) (by omega) (by omega), wrap_i64_id (z := 0 - q) (by omega) (by omega)]
  rw [fin _ (by omega) (by omega), fin _ (by omega) (by omega)]
  unfold rnd
  cases decide (N % z ≥ z - N % z) <;> rfl
theorem gam168 : GamOk Try.prog [(168, Sc 27 num3 ratV)] := .cons ok168 .nil
theorem ok122 : SumOk Try.prog 122 (S 27 (op2 fmul)) := S_ok (E := { gam := [(168, Sc 27 num3 ratV)] }) gam168 20 fun f p => by
  obtain ⟨x, y, _⟩ := p
  exact ((mul122 num3 ratV x y f).trans (rtk_eq _ _ _)).trans (mulVal_eq 27 x y f)
theorem ok140 : SumOk Try.prog 140 (S 27 (op2 fdiv)) := S_ok (E := { gam := [(168, Sc 27 num3 ratV)] }) gam168 20 fun f p => by
  obtain ⟨x, y, _⟩ := p
  exact ((div140 num3 ratV x y f).trans (rtk_eq _ _ _)).trans (divVal_eq 27 x y f)
theorem ok118 : SumOk Try.prog 118 (S 27 (op3 fpart)) := S_ok (E := { gam := [(168, Sc 27 num3 ratV)] }) gam168 20 fun f p => by
  obtain ⟨x, y, z, _⟩ := p
  exact ((part118 num3 ratV x y z f).trans (rtk_eq _ _ _)).trans (partVal_eq 27 x y z f)
end Go.Ab
/- The bounds of an int64. -/
namespace Go.Ab
open Go
def i64? (x : Int) : Bool := decide (-9223372036854775808 ≤ x ∧ x < 9223372036854775808)
theorem i64_of {x : Int} (h : (Lit.int .i64 x).wf = true) : i64? x = true := by
  simp only [Lit.wf, Bool.and_eq_true, decide_eq_true_eq] at h
  have e1 : IntKind.i64.min = -9223372036854775808 := rfl
  have e2 : IntKind.i64.max = 9223372036854775807 := rfl
  rw [e1, e2] at h
  simp only [i64?, decide_eq_true_eq]
  omega
end Go.Ab
/- Vectors over open operations, and how a statement's chain of tests ends. -/
namespace Go.Ab
theorem pull {ω : Type} [Cod ω] {c : Bool} {x y : ω} {e : TypeId} {b : Bool} : (bif c then some (AV.val (Cod.enc x), row e b) else some (AV.val (Cod.enc y), row e b)) = some (AV.val (Cod.enc (bif c then x else y)), row e b) := by cases c <;> rfl
def V3.zero : V3 := ⟨0, 0, 0⟩
def v3b (a b : V3) : Bool := a.x == b.x && (a.y == b.y && (a.z == b.z && true))
theorem v3b_self (a : V3) : v3b a a = true := by simp [v3b]
def sayF : Option (AV × List Con) := some (.val (.bool false), [])
def say (b : Bool) : Option (AV × List Con) := some (.val (.bool b), [])
/-- each: part by part. -/
def each3 (b : Bool) (g : Bool → Int × Bool) (h : Bool → Int × Bool) (k : Bool → Int × Bool) : V3 × Bool :=
  (⟨(g b).1, (h (g b).2).1, (k (h (g b).2).2).1⟩, (k (h (g b).2).2).2)
def done3 (r : V3 × Bool) : V3 × Bool := (bif r.2 then V3.zero else r.1, r.2)
def vop (g : Bool → Int → Int → Int × Bool) (b : Bool) (p : V3 × V3 × Unit) : V3 × Bool :=
  done3 (each3 b (fun b => g b p.1.x p.2.1.x) (fun b => g b p.1.y p.2.1.y) (fun b => g b p.1.z p.2.1.z))
end Go.Ab
/- The greatest whose square isn't above, bit by bit: the laws of numbers. -/
namespace Go.Ab
/-- From r on, k bits more. -/
def isqB : Nat → Int → Int → Int
  | 0, r, _ => r
  | k + 1, r, W => bif decide ((r + 2 ^ k) * (r + 2 ^ k) ≤ W) then isqB k (r + 2 ^ k) W else isqB k r W
theorem two_pow_pos (k : Nat) : (0 : Int) < 2 ^ k := Int.pow_pos (by omega)
theorem two_pow_succ (k : Nat) : (2 : Int) ^ (k + 1) = 2 * 2 ^ k := by rw [Int.pow_succ, Int.mul_comm]
theorem isqB_spec : ∀ (k : Nat) (r W : Int), 0 ≤ r → r * r ≤ W → W < (r + 2 ^ k) * (r + 2 ^ k) →
    r ≤ isqB k r W ∧ isqB k r W < r + 2 ^ k ∧ isqB k r W * isqB k r W ≤ W ∧ W < (isqB k r W + 1) * (isqB k r W + 1)
  | 0, r, W, h0, h1, h2 => by
    simp only [isqB]
    have e : (2 : Int) ^ 0 = 1 := rfl
    rw [e] at h2 ⊢
    omega
  | k + 1, r, W, h0, h1, h2 => by
    have hk := two_pow_pos k
    have hs := two_pow_succ k
    simp only [isqB]
    by_cases h : (r + 2 ^ k) * (r + 2 ^ k) ≤ W
    · simp only [h, decide_true, cond_true]
      have e : r + 2 ^ k + 2 ^ k = r + 2 ^ (k + 1) := by omega
      obtain ⟨a, b, c, d⟩ := isqB_spec k (r + 2 ^ k) W (by omega) h (by rw [e]; exact h2)
      refine ⟨by omega, by omega, c, d⟩
    · simp only [h, decide_false, cond_false]
      obtain ⟨a, b, c, d⟩ := isqB_spec k r W h0 h1 (by omega)
      refine ⟨a, by omega, c, d⟩
theorem sq_lt_imp {a b : Int} (hb : 0 ≤ b) (h : a * a < b * b) : a < b := by
  rcases Int.lt_or_le a b with h1 | h1
  · exact h1
  · have : b * b ≤ a * a := Int.le_trans (Int.mul_le_mul_of_nonneg_right h1 hb) (Int.mul_le_mul_of_nonneg_left h1 (by omega))
    omega
theorem sqrt_unique {a b W : Int} (ha : 0 ≤ a) (hb : 0 ≤ b) (h1 : a * a ≤ W) (h2 : W < (a + 1) * (a + 1)) (h3 : b * b ≤ W) (h4 : W < (b + 1) * (b + 1)) : a = b := by
  have x : a < b + 1 := sq_lt_imp (by omega) (by omega)
  have y : b < a + 1 := sq_lt_imp (by omega) (by omega)
  omega
/-- The root. -/
def isq (W : Int) : Int := isqB 63 0 W
theorem isq_spec {W : Int} (h0 : 0 ≤ W) (h1 : W < 2 ^ 126) : 0 ≤ isq W ∧ isq W < 2 ^ 63 ∧ isq W * isq W ≤ W ∧ W < (isq W + 1) * (isq W + 1) := by
  have := isqB_spec 63 0 W (by omega) (by simpa using h0) (by
    rw [Int.zero_add, ← Int.pow_add]; exact h1)
  rw [Int.zero_add] at this
  exact this
theorem isqB_52 {W : Int} (h0 : 0 ≤ W) (h1 : W < 2 ^ 104) : isqB 52 0 W = isq W := by
  obtain ⟨a, b, c, d⟩ := isqB_spec 52 0 W (by omega) (by simpa using h0) (by rw [Int.zero_add, ← Int.pow_add]; exact h1)
  have h2 : W < 2 ^ 126 := Int.lt_of_lt_of_le h1 (by decide)
  obtain ⟨a', b', c', d'⟩ := isq_spec h0 h2
  exact sqrt_unique a a' c d c' d'
theorem isq_mono {V W : Int} (h0 : 0 ≤ V) (h : V ≤ W) (h1 : W < 2 ^ 126) : isq V ≤ isq W := by
  obtain ⟨a, b, c, d⟩ := isq_spec h0 (by omega)
  obtain ⟨a', b', c', d'⟩ := isq_spec (W := W) (by omega) h1
  have : isq V < isq W + 1 := sq_lt_imp (by omega) (by omega)
  omega
theorem le_isq {a W : Int} (ha : 0 ≤ a) (h : a * a ≤ W) (h1 : W < 2 ^ 126) : a ≤ isq W := by
  have h0 : 0 ≤ a * a := Int.mul_nonneg ha ha
  obtain ⟨a', b', c', d'⟩ := isq_spec (W := W) (by omega) h1
  have : a < isq W + 1 := sq_lt_imp (by omega) (by omega)
  omega
end Go.Ab
/- fixed's root. -/
namespace Go.Ab
open Go Go.Proofs
def rtSl : Slots := [(0, .int .u64), (1, .int .u64), (5, .int .u64), (6, .int .u64)]
def rtSt (h l r bit : Int) (x : Nat → AV) (heap : Hp) (lo hi step : Nat) : St := lpSt 38 rtSl (nums 7 31) [h, l, r, bit] x heap lo hi step
theorem rootRound (mp : U6 × U6 × Unit → Bool) (mv : U6 × U6 × Unit → Two U6 U6) (h l r bit : Int) (x : Nat → AV) (heap : Hp) (lo hi step : Nat) :
    run Try.prog (callN Try.prog { gam := [(176, S0c mp mv)] } 1) 38 { quiet := isSum [(176, S0c mp mv)] } [] 50 (Ex × St) (loopOf (blkOf Try.f171 0)) (rtSt h l r bit x heap lo hi step) (fun e s' => some (e, maskSt (nums 7 31) s')) =
      bif decide (bit > 0) then bif mp (⟨orI r bit⟩, ⟨orI r bit⟩, ()) then
        bif decide ((mv (⟨orI r bit⟩, ⟨orI r bit⟩, ())).a.n < h) then some (.normal, rtSt h l (orI r bit) (srI bit 1) x heap lo hi step)
        else bif (mv (⟨orI r bit⟩, ⟨orI r bit⟩, ())).a.n == h then
          bif decide ((mv (⟨orI r bit⟩, ⟨orI r bit⟩, ())).b.n ≤ l) then some (.normal, rtSt h l (orI r bit) (srI bit 1) x heap lo hi step)
          else some (.normal, rtSt h l r (srI bit 1) x heap lo hi step)
        else some (.normal, rtSt h l r (srI bit 1) x heap lo hi step)
      else none
      else some (.exit 0, rtSt h l r bit x heap lo hi step) := by kernel_rfl
def rtPostV (R : Int → Int → Int → Int → Int) : List Int → List Int
  | [h, l, r, bit] => [h, l, R h l r bit, 0]
  | xs => xs
theorem rootTree (mp : U6 × U6 × Unit → Bool) (mv : U6 × U6 × Unit → Two U6 U6) (p : List Int → Bool) (R : Int → Int → Int → Int → Int) (h l : Int) :
    fnSum Try.prog { gam := [(176, S0c mp mv)] } [(0, lpHint 38 rtSl (nums 7 31) p (rtPostV R))] 20 171 [.val (.int .u64 h), .val (.int .u64 l)] [] =
      bif p [h, l, 0, 4611686018427387904] then some (.val (.int .u64 (R h l 0 4611686018427387904)), []) else none := by kernel_rfl
theorem rtBlocks : blocksOf (Try.f171.body.getD .skip) = [(0, .loop (loopOf (blkOf Try.f171 0))), (1, blkOf Try.f171 1)] := by kernel_rfl
theorem rtTmps : Try.f171.ntmps = 38 := by kernel_rfl
theorem rtAdd64 : isAdd64 Try.f177 = true := by kernel_rfl
end Go.Ab
/- fixed's root is the greatest whose square isn't above. -/
namespace Go.Ab
open Go Go.Proofs
def bitK (bit : Int) : Nat := if bit = 0 then 0 else bit.toNat.log2 + 1
theorem bitK_zero : bitK 0 = 0 := rfl
theorem bitK_pow (n : Nat) : bitK (2 ^ n) = n + 1 := by
  have h := two_pow_pos n
  unfold bitK
  rw [if_neg (by omega)]
  have : ((2 : Int) ^ n).toNat = 2 ^ n := by
    have : (2 : Int) ^ n = ((2 ^ n : Nat) : Int) := by simp
    rw [this, Int.toNat_natCast]
  rw [this, Nat.log2_two_pow]
def rtpre : List Int → Bool
  | [h, l, r, bit] => word h && (word l && decide ((bit = 0 ∨ bit = 2 ^ (bitK bit - 1)) ∧ 0 ≤ r ∧ r + 2 ^ bitK bit ≤ 9223372036854775808 ∧ r % 2 ^ bitK bit = 0))
  | _ => false
def rtR (h l r bit : Int) : Int := isqB (bitK bit) r (h * 18446744073709551616 + l)
def rtpost : List Int → List Int := rtPostV rtR
theorem half_pow (n : Nat) : srI (2 ^ (n + 1)) 1 = 2 ^ n := by
  have : srI (2 ^ (n + 1)) 1 = 2 ^ (n + 1) / 2 ^ 1 := srI_eq _ 1 (by omega)
  rw [this, two_pow_succ]
  omega
theorem pow_le63 {n : Nat} (h : (2 : Int) ^ n ≤ 9223372036854775808) : n ≤ 63 := by
  rcases Nat.lt_or_ge 63 n with h1 | h1
  · have e : (2 : Int) ^ 64 = 18446744073709551616 := by decide
    have e2 : (2 : Int) ^ n = 2 ^ 64 * 2 ^ (n - 64) := by rw [← Int.pow_add]; congr 1; omega
    have := two_pow_pos (n - 64)
    omega
  · exact h1
theorem rtStep {h l r bit : Int} (hp : rtpre [h, l, r, bit] = true) :
    (bit > 0 → word (orI r bit) = true ∧ ∀ r', r' = (bif decide (orI r bit * orI r bit ≤ h * 18446744073709551616 + l) then orI r bit else r) →
      rtpre [h, l, r', srI bit 1] = true ∧ rtpost [h, l, r', srI bit 1] = rtpost [h, l, r, bit] ∧ bitK (srI bit 1) < bitK bit) ∧
    (¬ bit > 0 → rtpost [h, l, r, bit] = [h, l, r, bit]) := by
  simp only [rtpre, Bool.and_eq_true, decide_eq_true_eq] at hp
  obtain ⟨hh, hl, hb, hr0, hr1, hr2⟩ := hp
  refine ⟨fun hpos => ?_, fun hz => ?_⟩
  · have hb : bit = 2 ^ (bitK bit - 1) := by
      rcases hb with hb | hb
      · omega
      · exact hb
    generalize hn : bitK bit - 1 = n at hb
    subst hb
    rw [bitK_pow] at hn hr1 hr2 ⊢
    have hk := two_pow_pos n
    have hs := two_pow_succ n
    have ho : orI r (2 ^ n) = r + 2 ^ n := by
      have hd : r = r / 2 ^ (n + 1) * 2 ^ (n + 1) := by
        have := Int.ediv_mul_add_emod r (2 ^ (n + 1))
        omega
      have h0 : 0 ≤ r / 2 ^ (n + 1) := Int.ediv_nonneg hr0 (by omega)
      conv => lhs; rw [hd]
      rw [orI_eq _ _ (n + 1) h0 (by omega) (by omega) (by rw [← hd]; omega), ← hd]
    rw [ho]
    refine ⟨by simp only [word, decide_eq_true_eq]; omega, fun r' hr' => ?_⟩
    have hK : bitK (srI (2 ^ n) 1) = n ∧ (srI (2 ^ n) 1 = 0 ∨ srI (2 ^ n) 1 = 2 ^ (n - 1)) := by
      cases n with
      | zero =>
        have : srI (2 ^ 0) 1 = 0 := by decide
        rw [this]
        exact ⟨rfl, .inl rfl⟩
      | succ m =>
        rw [half_pow, bitK_pow]
        exact ⟨rfl, .inr rfl⟩
    obtain ⟨hK1, hK2⟩ := hK
    refine ⟨?_, ?_, by omega⟩
    · simp only [rtpre, Bool.and_eq_true, decide_eq_true_eq, hK1]
      have hmod : r % 2 ^ n = 0 := by
        have : (2 : Int) ^ n ∣ r := Int.dvd_trans ⟨2, by omega⟩ (Int.dvd_of_emod_eq_zero hr2)
        exact Int.emod_eq_zero_of_dvd this
      refine ⟨hh, hl, hK2, ?_, ?_, ?_⟩
      all_goals
        cases hc : decide ((r + 2 ^ n) * (r + 2 ^ n) ≤ h * 18446744073709551616 + l) <;> rw [hc] at hr' <;> simp only [cond_true, cond_false] at hr' <;> subst hr'
      · omega
      · omega
      · omega
      · omega
      · exact hmod
      · rw [Int.add_emod_right]; exact hmod
    · simp only [rtpost, rtPostV, rtR, hK1, bitK_pow, isqB]
      subst hr'
      cases decide ((r + 2 ^ n) * (r + 2 ^ n) ≤ h * 18446744073709551616 + l) <;> rfl
  · have hb0 : bit = 0 := by
      rcases hb with hb | hb
      · exact hb
      · have := two_pow_pos (bitK bit - 1)
        omega
    subst hb0
    simp only [rtpost, rtPostV, rtR, bitK_zero, isqB]
def rtHints : Hints := [(0, lpHint 38 rtSl (nums 7 31) rtpre rtpost)]
theorem rtFit : ∀ fn c, Try.prog.funcs[171]? = some fn → fn.body = some c → HFit Try.prog fn.ntmps rtHints c := by
  intro fn c hf hb
  rw [Try.func171] at hf
  cases hf
  have hc : Try.f171.body.getD .skip = c := by rw [hb]; rfl
  rw [rtTmps]
  have hL := rtBlocks
  rw [hc] at hL
  have hcall : ∀ β, CallOk Try.prog (callN Try.prog { gam := [(176, S0c mulPre mulVal)] } 1 β) := callN_ok (.cons ok176 .nil) 1
  refine HFit.of fun p hp h hh s s' hs => ?_
  rw [hL] at hp
  simp only [List.mem_cons, List.not_mem_nil, or_false] at hp
  rcases hp with rfl | rfl
  · have : h = lpHint 38 rtSl (nums 7 31) rtpre rtpost := (Option.some.inj hh).symm
    subst this
    refine lp_ok hcall (F := 50) (wy := { quiet := isSum [(176, S0c mulPre mulVal)] }) (fun xs => bitK (xs.getD 3 0)) ?_ s s' hs
    intro xs hlen hpre x heap lo hi step
    obtain ⟨hw, l, r, bit, rfl⟩ : ∃ a b c d, xs = [a, b, c, d] := by
      match xs, hlen with
      | [a, b, c, d], _ => exact ⟨a, b, c, d, rfl⟩
    obtain ⟨h1, h2⟩ := rtStep hpre
    have hr := rootRound mulPre mulVal hw l r bit x heap lo hi step
    unfold rtSt at hr
    rw [hr]
    by_cases hbit : bit > 0
    · obtain ⟨k1, k2⟩ := h1 hbit
      have hpre' := hpre
      simp only [rtpre, Bool.and_eq_true, decide_eq_true_eq] at hpre'
      obtain ⟨hh', hl', _⟩ := hpre'
      have hm : mulPre (⟨orI r bit⟩, ⟨orI r bit⟩, ()) = true := by simp only [mulPre, k1, Bool.and_self]
      simp only [hbit, decide_true, cond_true, hm, mulVal]
      generalize orI r bit = t at *
      have ht0 : 0 ≤ t * t := by
        simp only [word, decide_eq_true_eq] at k1
        exact Int.mul_nonneg k1.1 k1.1
      simp only [word, decide_eq_true_eq] at hh' hl'
      have step1 : ∀ r', r' = (bif decide (t * t ≤ hw * 18446744073709551616 + l) then t else r) →
          ∃ ys, ys.length = shLen rtSl ∧ rtpre ys = true ∧ bitK (ys.getD 3 0) < bitK ([hw, l, r, bit].getD 3 0) ∧ rtpost ys = rtpost [hw, l, r, bit] ∧
            (some (Ex.normal, lpSt 38 rtSl (nums 7 31) [hw, l, r', srI bit 1] x heap lo hi step) : Option (Ex × St)) = some (.normal, lpSt 38 rtSl (nums 7 31) ys x heap lo hi step) := by
        intro r' hr'
        obtain ⟨a1, a2, a3⟩ := k2 r' hr'
        exact ⟨_, rfl, a1, by simpa only [List.getD_cons_succ, List.getD_cons_zero] using a3, a2, rfl⟩
      by_cases c1 : t * t / 18446744073709551616 < hw
      · simp only [c1, decide_true, cond_true]
        refine .inl (step1 t ?_)
        have : t * t ≤ hw * 18446744073709551616 + l := by omega
        rw [decide_eq_true this, cond_true]
      · simp only [c1, decide_false, cond_false]
        by_cases c2 : t * t / 18446744073709551616 = hw
        · simp only [c2, BEq.rfl, cond_true]
          by_cases c3 : t * t % 18446744073709551616 ≤ l
          · simp only [c3, decide_true, cond_true]
            refine .inl (step1 t ?_)
            have : t * t ≤ hw * 18446744073709551616 + l := by omega
            rw [decide_eq_true this, cond_true]
          · simp only [c3, decide_false, cond_false]
            refine .inl (step1 r ?_)
            have : ¬ t * t ≤ hw * 18446744073709551616 + l := by omega
            rw [decide_eq_false this, cond_false]
        · have e : (t * t / 18446744073709551616 == hw) = false := by simp; exact c2
          rw [e, cond_false]
          refine .inl (step1 r ?_)
          have : ¬ t * t ≤ hw * 18446744073709551616 + l := by omega
          rw [decide_eq_false this, cond_false]
    · simp only [hbit, decide_false, cond_false]
      refine .inr ?_
      rw [h2 hbit]
  · simp [findH, rtHints] at hh
def rootPre (p : U6 × U6 × Unit) : Bool := word p.1.n && word p.2.1.n
def rootVal (p : U6 × U6 × Unit) : U6 := ⟨isq (p.1.n * 18446744073709551616 + p.2.1.n)⟩
theorem ok171 : SumOk Try.prog 171 (S0c rootPre rootVal) := by
  have hG : GamOk Try.prog [(176, S0c mulPre mulVal)] := .cons ok176 .nil
  refine S0c_okH (E := { gam := [(176, S0c mulPre mulVal)] }) hG (hB := rtHints) rtFit 20 fun p hp => ?_
  obtain ⟨⟨h⟩, ⟨l⟩, _⟩ := p
  refine (rootTree mulPre mulVal rtpre rtR h l).trans ?_
  have hk : bitK 4611686018427387904 = 63 := by
    have : (4611686018427387904 : Int) = 2 ^ 62 := by decide
    rw [this, bitK_pow]
  simp only [rootPre, Bool.and_eq_true] at hp
  have hpre : rtpre [h, l, 0, 4611686018427387904] = true := by
    simp only [rtpre, Bool.and_eq_true, decide_eq_true_eq, hk]
    exact ⟨hp.1, hp.2, .inr (by decide), by omega, by decide, by decide⟩
  rw [hpre, cond_true]
  simp only [rtR, hk]
  rfl
end Go.Ab
/- Fail, Mod of both packages, fixed's Sqrt. -/
namespace Go.Ab
open Go Go.Proofs
instance : Cod Unit where
  enc _ := .tuple #[]
  dec v := match v with | .tuple ⟨[]⟩ => some () | _ => none
  law v a h := by split at h <;> simp_all
def failV (_ : Bool) (_ : Unit) : Unit × Bool := ((), true)
theorem ok115 : SumOk Try.prog 115 (S 25 failV) := S_ok (E := { gam := [] }) GamOk.nil 20 fun f a => by kernel_rfl
theorem ok117 : SumOk Try.prog 117 (S 27 failV) := S_ok (E := { gam := [] }) GamOk.nil 20 fun f a => by kernel_rfl
def fmod (f : Bool) (a m : Int) : Int × Bool := bif f || !nums? [a, m] then (0, true) else bif decide (m ≤ 0) then (0, true) else (a % m, false)
theorem mod56 (a m : Int) (f : Bool) : fnSum Try.prog { gam := [] } [] 20 56 [.ptr 0 0, .val (.int .i64 a), .val (.int .i64 m)] (row 25 f) =
    ptk [a, m] f fun f => bif !!f then some (.val (.int .i64 0), row 25 true) else bif decide (m ≤ 0) then some (.val (.int .i64 0), row 25 true) else bif m == 0 then none else bif m == 0 then none else
      some (.val (.int .i64 ((IntKind.i64.wrap (a.tmod m + m)).tmod m)), row 25 f) := by kernel_rfl
theorem mod131 (a m : Int) (f : Bool) : fnSum Try.prog { gam := [] } [] 20 131 [.ptr 0 0, .val (.int .i64 a), .val (.int .i64 m)] (row 27 f) =
    rtk [a, m] f fun f => bif !!f then some (.val (.int .i64 0), row 27 f) else bif decide (m ≤ 0) then some (.val (.int .i64 0), row 27 true) else bif m == 0 then none else
      bif decide (a.tmod m < 0) then some (.val (.int .i64 (IntKind.i64.wrap (a.tmod m + m))), row 27 f) else some (.val (.int .i64 (a.tmod m)), row 27 f) := by kernel_rfl
theorem tmod_pos {a m : Int} (hm : 0 < m) : -m < a.tmod m ∧ a.tmod m < m ∧ (a.tmod m < 0 → a % m = a.tmod m + m) ∧ (0 ≤ a.tmod m → a % m = a.tmod m) := by
  rcases Int.lt_or_le a 0 with h | h
  · have e : a.tmod m = -((-a) % m) := by
      have := Int.neg_tmod (a := -a) (b := m)
      rw [Int.neg_neg] at this
      rw [this, Int.tmod_eq_emod_of_nonneg (by omega)]
    have r0 := Int.emod_nonneg (-a) (b := m) (by omega)
    have r1 := Int.emod_lt_of_pos (-a) hm
    have e2 : a % m = if (-a) % m = 0 then 0 else m - (-a) % m := by
      have d1 : m * ((-a) / m) + (-a) % m = -a := Int.mul_ediv_add_emod (-a) m
      split
      · rename_i hz
        rw [hz] at d1
        have : a = m * (-((-a) / m)) := by rw [Int.mul_neg]; omega
        rw [this]
        exact Int.mul_emod_right _ _
      · rename_i hz
        have : a = (m - (-a) % m) + m * (-((-a) / m) - 1) := by rw [Int.mul_sub, Int.mul_neg]; omega
        have h3 : a % m = ((m - (-a) % m) + m * (-((-a) / m) - 1)) % m := by rw [← this]
        rw [h3, Int.add_mul_emod_self_left, Int.emod_eq_of_lt (by omega) (by omega)]
    rw [e, e2]
    refine ⟨by omega, by omega, fun h => ?_, fun h => ?_⟩
    · split <;> omega
    · split <;> omega
  · have e : a.tmod m = a % m := Int.tmod_eq_emod_of_nonneg h
    have r0 := Int.emod_nonneg a (b := m) (by omega)
    have r1 := Int.emod_lt_of_pos a hm
    rw [e]
    exact ⟨by omega, r1, fun h => by omega, fun _ => rfl⟩
theorem nums2 {f : Bool} {a b : Int} (h : (f || !nums? [a, b]) = false) : f = false ∧ num a = true ∧ num b = true := by
  simp only [Bool.or_eq_false_iff, Bool.not_eq_false', nums?, Bool.and_true, Bool.and_eq_true] at h
  exact ⟨h.1, h.2.1, h.2.2⟩
theorem ok56 : SumOk Try.prog 56 (S 25 (op2 fmod)) := S_ok (E := { gam := [] }) GamOk.nil 20 fun f p => by
  obtain ⟨a, m, _⟩ := p
  refine ((mod56 a m f).trans (ptk_eq _ _ _)).trans ?_
  show _ = some (AV.val (Cod.enc (fmod f a m).1), row 25 (fmod f a m).2)
  unfold fmod
  cases hb : (f || !nums? [a, m]) with
  | true => rfl
  | false =>
    obtain ⟨rfl, ha, hm⟩ := nums2 hb
    by_cases h0 : m ≤ 0
    · simp only [h0, decide_true, cond_true]; rfl
    · have h1 : (m == 0) = false := by simp; omega
      rw [num_iff] at ha hm
      obtain ⟨t1, t2, t3, t4⟩ := tmod_pos (a := a) (m := m) (by omega)
      have e : (IntKind.i64.wrap (a.tmod m + m)).tmod m = a % m := by
        rw [wrap_i64_id (by omega) (by omega), Int.tmod_eq_emod_of_nonneg (by omega), Int.add_emod_right]
        rcases Int.lt_or_le (a.tmod m) 0 with h | h
        · rw [t3 h]
          have : a.tmod m = (a.tmod m + m) + m * (-1) := by omega
          rw [this, Int.add_mul_emod_self_left, Int.emod_eq_of_lt (by omega) (by omega)]
          omega
        · rw [t4 h, Int.emod_eq_of_lt h t2]
      simp only [h0, h1, e, decide_false, cond_false]
      rfl
theorem ok131 : SumOk Try.prog 131 (S 27 (op2 fmod)) := S_ok (E := { gam := [] }) GamOk.nil 20 fun f p => by
  obtain ⟨a, m, _⟩ := p
  refine ((mod131 a m f).trans (rtk_eq _ _ _)).trans ?_
  show _ = some (AV.val (Cod.enc (fmod f a m).1), row 27 (fmod f a m).2)
  unfold fmod
  cases hb : (f || !nums? [a, m]) with
  | true => rfl
  | false =>
    obtain ⟨rfl, ha, hm⟩ := nums2 hb
    by_cases h0 : m ≤ 0
    · simp only [h0, decide_true, cond_true]; rfl
    · have h1 : (m == 0) = false := by simp; omega
      rw [num_iff] at ha hm
      obtain ⟨t1, t2, t3, t4⟩ := tmod_pos (a := a) (m := m) (by omega)
      rcases Int.lt_or_le (a.tmod m) 0 with h | h
      · rw [wrap_i64_id (z := a.tmod m + m) (by omega) (by omega), t3 h]
        simp only [h0, h1, h, decide_true, decide_false, cond_true, cond_false]
        rfl
      · have h' : ¬ a.tmod m < 0 := by omega
        rw [t4 h]
        simp only [h0, h1, h', decide_false, cond_false]
        rfl
/-- A root, cut. -/
def fsqrt (f : Bool) (a : Int) : Int × Bool := bif f || !nums? [a] then (0, true) else bif decide (a < 0) then (0, true) else (isq (a * 1099511627776), false)
theorem sqrt137 (rp : U6 × U6 × Unit → Bool) (rv : U6 × U6 × Unit → U6) (gv : Bool → Int × Bool × Unit → Int × Bool) (a : Int) (f : Bool) :
    fnSum Try.prog { gam := [(169, S 25 gv), (171, S0c rp rv)] } [] 20 137 [.ptr 0 0, .val (.int .i64 a)] (row 25 f) =
    ptk [a] f fun f => bif !!f then some (.val (.int .i64 0), row 25 true) else bif decide (a < 0) then some (.val (.int .i64 0), row 25 true) else
      bif rp (⟨srI (IntKind.u64.wrap a) 24⟩, ⟨shI (IntKind.u64.wrap a) 40⟩, ()) then
        some (.val (.int .i64 (gv f (IntKind.i64.wrap (rv (⟨srI (IntKind.u64.wrap a) 24⟩, ⟨shI (IntKind.u64.wrap a) 40⟩, ())).n, true, ())).1), row 25 (gv f (IntKind.i64.wrap (rv (⟨srI (IntKind.u64.wrap a) 24⟩, ⟨shI (IntKind.u64.wrap a) 40⟩, ())).n, true, ())).2)
      else none := by kernel_rfl
theorem isq_num {W : Int} (h0 : 0 ≤ W) (h1 : W < 2 ^ 102 + 1) : 0 ≤ isq W ∧ isq W ≤ 2251799813685248 := by
  obtain ⟨a, b, c, d⟩ := isq_spec h0 (Int.lt_of_lt_of_le h1 (by decide))
  refine ⟨a, ?_⟩
  have : isq W < 2251799813685248 + 1 := sq_lt_imp (by omega) (by
    have e : (2 : Int) ^ 102 = 5070602400912917605986812821504 := by decide
    omega)
  omega
theorem sqrt_bound {a : Int} (ha : 0 ≤ a) (hm : a ≤ 4611686018427387904) : 0 ≤ a * 1099511627776 ∧ a * 1099511627776 < 2 ^ 102 + 1 := by
  have e : (2 : Int) ^ 102 = 5070602400912917605986812821504 := by decide
  omega
theorem ok137 : SumOk Try.prog 137 (S 25 (op1 fsqrt)) := by
  have hG : GamOk Try.prog [(169, S 25 gvV), (171, S0c rootPre rootVal)] := .cons ok169 (.cons ok171 .nil)
  refine S_ok (E := { gam := [(169, S 25 gvV), (171, S0c rootPre rootVal)] }) hG 20 fun f p => ?_
  obtain ⟨a, _⟩ := p
  refine ((sqrt137 rootPre rootVal gvV a f).trans (ptk_eq _ _ _)).trans ?_
  show _ = some (AV.val (Cod.enc (fsqrt f a).1), row 25 (fsqrt f a).2)
  unfold fsqrt
  cases hb : (f || !nums? [a]) with
  | true => rfl
  | false =>
    simp only [Bool.or_eq_false_iff, Bool.not_eq_false', nums?, Bool.and_true, num_iff] at hb
    obtain ⟨rfl, ha⟩ := hb
    by_cases h0 : a < 0
    · simp only [h0, decide_true, cond_true]; rfl
    · have hw : IntKind.u64.wrap a = a := wrap_u64_id (by omega) (by omega)
      have e1 : srI a 24 = a / 16777216 := srI_eq a 24 (by omega)
      have e2 : shI a 40 = a * 1099511627776 % 18446744073709551616 := shI_eq a 40 (by omega)
      have hpre : rootPre (⟨a / 16777216⟩, ⟨a * 1099511627776 % 18446744073709551616⟩, ()) = true := by
        simp only [rootPre, word, Bool.and_eq_true, decide_eq_true_eq]; omega
      have hv : rootVal (⟨a / 16777216⟩, ⟨a * 1099511627776 % 18446744073709551616⟩, ()) = ⟨isq (a * 1099511627776)⟩ := by
        simp only [rootVal]
        congr 2
        omega
      obtain ⟨b0, b1⟩ := sqrt_bound (a := a) (by omega) (by omega)
      obtain ⟨i0, i1⟩ := isq_num b0 b1
      rw [hw, e1, e2, hpre, hv]
      simp only [h0, decide_false, cond_false, cond_true]
      rw [wrap_i64_id (z := isq (a * 1099511627776)) (by omega) (by omega), gvV_ok, show num (isq (a * 1099511627776)) = true from num_iff.2 (by omega)]
      rfl
end Go.Ab
/- fixed's Norm. -/
namespace Go.Ab
open Go Go.Proofs
variable {β : Type}
def sqAcc (mp : U6 × U6 × Unit → Bool) (mv : U6 × U6 × Unit → Two U6 U6) (x h l : Int) (K : Int → Int → Option β) : Option β :=
  bif mp (⟨x⟩, ⟨x⟩, ()) then
    bif decide (0 ≤ l) && (decide (0 ≤ (mv (⟨x⟩, ⟨x⟩, ())).b.n) && (decide ((0 : Int) ≤ 0) && decide ((0 : Int) ≤ 1))) then
      bif decide (0 ≤ h) && (decide (0 ≤ (mv (⟨x⟩, ⟨x⟩, ())).a.n) && (decide (0 ≤ (l + (mv (⟨x⟩, ⟨x⟩, ())).b.n + 0) / 18446744073709551616) && decide ((l + (mv (⟨x⟩, ⟨x⟩, ())).b.n + 0) / 18446744073709551616 ≤ 1))) then
        K ((h + (mv (⟨x⟩, ⟨x⟩, ())).a.n + (l + (mv (⟨x⟩, ⟨x⟩, ())).b.n + 0) / 18446744073709551616) % 18446744073709551616) ((l + (mv (⟨x⟩, ⟨x⟩, ())).b.n + 0) % 18446744073709551616)
      else none
    else none
  else none
theorem norm141 (mp : U6 × U6 × Unit → Bool) (mv : U6 × U6 × Unit → Two U6 U6) (rp : U6 × U6 × Unit → Bool) (rv : U6 × U6 × Unit → U6) (sz : Int × Unit → Two U6 U6) (gv : Bool → Int × Bool × Unit → Int × Bool) (a b c : Int) (f : Bool) :
    fnSum Try.prog { gam := [(169, S 25 gv), (171, S0c rp rv), (175, S0 sz), (176, S0c mp mv)] } [] 20 141 [.ptr 0 0, .val (.int .i64 a), .val (.int .i64 b), .val (.int .i64 c)] (row 25 f) =
    ptk [a, b, c] f fun f => bif !!f then some (.val (.int .i64 0), row 25 f) else
      sqAcc mp mv (sz (a, ())).a.n 0 0 fun h l => sqAcc mp mv (sz (b, ())).a.n h l fun h l => sqAcc mp mv (sz (c, ())).a.n h l fun h l =>
        bif rp (⟨h⟩, ⟨l⟩, ()) then some (.val (.int .i64 (gv f (IntKind.i64.wrap (rv (⟨h⟩, ⟨l⟩, ())).n, decide ((rv (⟨h⟩, ⟨l⟩, ())).n ≤ 4611686018427387904), ())).1), row 25 (gv f (IntKind.i64.wrap (rv (⟨h⟩, ⟨l⟩, ())).n, decide ((rv (⟨h⟩, ⟨l⟩, ())).n ≤ 4611686018427387904), ())).2) else none := by kernel_rfl
theorem sqAcc_eq {x S : Int} (hx0 : 0 ≤ x) (hx1 : x ≤ 4611686018427387904) (hS0 : 0 ≤ S) (hS1 : S ≤ 42535295865117307932921825928971026432) (K : Int → Int → Option β) :
    sqAcc mulPre mulVal x (S / 18446744073709551616) (S % 18446744073709551616) K = K ((S + x * x) / 18446744073709551616) ((S + x * x) % 18446744073709551616) := by
  have n0 : 0 ≤ x * x := Int.mul_nonneg hx0 hx0
  have n1 : x * x ≤ 4611686018427387904 * 4611686018427387904 := Int.le_trans (Int.mul_le_mul_of_nonneg_right hx1 hx0) (Int.mul_le_mul_of_nonneg_left hx1 (by omega))
  have hm : mulPre (⟨x⟩, ⟨x⟩, ()) = true := by simp only [mulPre, word, Bool.and_eq_true, decide_eq_true_eq]; omega
  unfold sqAcc
  rw [hm, cond_true]
  obtain ⟨N, hN⟩ : ∃ N, x * x = N := ⟨_, rfl⟩
  simp only [mulVal, hN]
  rw [hN] at n0 n1
  have c1 : (decide (0 ≤ S % 18446744073709551616) && (decide (0 ≤ N % 18446744073709551616) && (decide ((0 : Int) ≤ 0) && decide ((0 : Int) ≤ 1)))) = true := by
    simp only [Bool.and_eq_true, decide_eq_true_eq]; omega
  have c2 : (decide (0 ≤ S / 18446744073709551616) && (decide (0 ≤ N / 18446744073709551616) && (decide (0 ≤ (S % 18446744073709551616 + N % 18446744073709551616 + 0) / 18446744073709551616) && decide ((S % 18446744073709551616 + N % 18446744073709551616 + 0) / 18446744073709551616 ≤ 1)))) = true := by
    simp only [Bool.and_eq_true, decide_eq_true_eq]; omega
  rw [c1, c2, cond_true, cond_true]
  congr 1 <;> omega
/-- A length, cut. -/
def fnorm (f : Bool) (a b c : Int) : Int × Bool :=
  bif f || !nums? [a, b, c] then (0, true) else bif decide (isq (a * a + b * b + c * c) > 4611686018427387904) then (0, true) else (isq (a * a + b * b + c * c), false)
theorem iabs_sq (a : Int) : iabs a * iabs a = a * a := by
  unfold iabs
  cases decide (a < 0)
  · rfl
  · simp only [cond_true]
    rw [Int.zero_sub, Int.neg_mul_neg]
theorem num_sq {a : Int} (h : num a = true) : 0 ≤ a * a ∧ a * a ≤ 21267647932558653966460912964485513216 := by
  obtain ⟨h0, h1⟩ := iabs_num h
  rw [← iabs_sq]
  exact ⟨Int.mul_nonneg h0 h0, Int.le_trans (Int.mul_le_mul_of_nonneg_right h1 h0) (by omega)⟩
theorem nums3 {f : Bool} {a b c : Int} (h : (f || !nums? [a, b, c]) = false) : f = false ∧ num a = true ∧ num b = true ∧ num c = true := by
  simp only [Bool.or_eq_false_iff, Bool.not_eq_false', nums?, Bool.and_true, Bool.and_eq_true] at h
  exact ⟨h.1, h.2.1, h.2.2.1, h.2.2.2⟩
theorem ok141 : SumOk Try.prog 141 (S 25 (op3 fnorm)) := by
  have hG : GamOk Try.prog [(169, S 25 gvV), (171, S0c rootPre rootVal), (175, S0 szV), (176, S0c mulPre mulVal)] := .cons ok169 (.cons ok171 (.cons ok175 (.cons ok176 .nil)))
  refine S_ok (E := { gam := [(169, S 25 gvV), (171, S0c rootPre rootVal), (175, S0 szV), (176, S0c mulPre mulVal)] }) hG 20 fun f p => ?_
  obtain ⟨a, b, c, _⟩ := p
  refine ((norm141 mulPre mulVal rootPre rootVal szV gvV a b c f).trans (ptk_eq _ _ _)).trans ?_
  show _ = some (AV.val (Cod.enc (fnorm f a b c).1), row 25 (fnorm f a b c).2)
  unfold fnorm
  cases hb : (f || !nums? [a, b, c]) with
  | true => rfl
  | false =>
    obtain ⟨rfl, ha, hb', hc⟩ := nums3 hb
    obtain ⟨a3, a4⟩ := iabs_num ha
    obtain ⟨b3, b4⟩ := iabs_num hb'
    obtain ⟨c3, c4⟩ := iabs_num hc
    obtain ⟨a5, a6⟩ := num_sq ha
    obtain ⟨b5, b6⟩ := num_sq hb'
    obtain ⟨c5, c6⟩ := num_sq hc
    simp only [(szV_num ha).1, (szV_num hb').1, (szV_num hc).1, Bool.not_false, Bool.not_true, cond_false]
    have s1 := fun K => sqAcc_eq (β := AV × List Con) (x := iabs a) (S := 0) a3 a4 (by omega) (by omega) K
    have s2 := fun K => sqAcc_eq (β := AV × List Con) (x := iabs b) (S := a * a) b3 b4 (by omega) (by omega) K
    have s3 := fun K => sqAcc_eq (β := AV × List Con) (x := iabs c) (S := a * a + b * b) c3 c4 (by omega) (by omega) K
    rw [iabs_sq, Int.zero_add] at s1
    rw [iabs_sq] at s2 s3
    have z : (0 : Int) / 18446744073709551616 = 0 ∧ (0 : Int) % 18446744073709551616 = 0 := by decide
    rw [z.1, z.2] at s1
    rw [s1, s2, s3]
    generalize hW : a * a + b * b + c * c = W at *
    have hpre : rootPre (⟨W / 18446744073709551616⟩, ⟨W % 18446744073709551616⟩, ()) = true := by
      simp only [rootPre, word, Bool.and_eq_true, decide_eq_true_eq]; omega
    have hv : rootVal (⟨W / 18446744073709551616⟩, ⟨W % 18446744073709551616⟩, ()) = ⟨isq W⟩ := by
      simp only [rootVal]
      congr 2
      omega
    have e126 : (2 : Int) ^ 126 = 85070591730234615865843651857942052864 := by decide
    have e63 : (2 : Int) ^ 63 = 9223372036854775808 := by decide
    obtain ⟨i0, i1, _, _⟩ := isq_spec (W := W) (by omega) (by omega)
    rw [hpre, hv, cond_true]
    dsimp only
    rw [wrap_i64_id (z := isq W) (by omega) (by omega)]
    by_cases hq : isq W > 4611686018427387904
    · have hq' : ¬ isq W ≤ 4611686018427387904 := by omega
      simp only [hq, hq', decide_true, decide_false, cond_true]
      rfl
    · have hq' : isq W ≤ 4611686018427387904 := by omega
      simp only [hq, hq', decide_true, decide_false, cond_false]
      rw [gvV_ok, show num (isq W) = true from num_iff.2 (by omega)]
      rfl
end Go.Ab
/- The document's roots: their loops. -/
namespace Go.Ab
open Go Go.Proofs
theorem above173 (a b : Wd) : fnSum Try.prog { gam := [] } [] 20 173 [.val (Cod.enc a), .val (Cod.enc b)] [] =
    bif decide (a.h > b.h) then some (.val (.bool true), []) else bif a.h == b.h then some (.val (.bool (decide (a.l > b.l))), []) else some (.val (.bool false), []) := by kernel_rfl
def abV (p : Wd × Wd × Unit) : Bool := decide (p.1.h > p.2.1.h) || (p.1.h == p.2.1.h && decide (p.1.l > p.2.1.l))
theorem ok173 : SumOk Try.prog 173 (S0 abV) := by
  refine S0_ok (E := { gam := [] }) GamOk.nil 20 fun p => ?_
  obtain ⟨a, b, _⟩ := p
  refine (above173 a b).trans ?_
  unfold abV
  dsimp only
  cases decide (a.h > b.h) <;> cases a.h == b.h <;> rfl
def sqSl : Slots := [(6, .int .u64), (7, .int .i64)]
def sqFx : List (Nat × Nat × Nat) := [(5, 3064991081731777716716694054300618367237478244367208448, 0)]
def sqRows : Rows' := [(4096, 2, [.i64]), (3064991081731777716716694054300618367237478244367208448, 171, [.u64, .u64])]
def sqG : List Nat := 8 :: nums 22 18
def sqSt (r i a h l : Int) (c : Con) (x : Nat → AV) (lo hi step : Nat) : St := lrSt 40 sqSl sqFx sqG c sqRows [r, i, a, h, l] x lo hi step
def bitAt (r i : Int) : Int := IntKind.u64.wrap (r + shI 1 i)
theorem sqRound (mp : U6 × U6 × Unit → Bool) (mv : U6 × U6 × Unit → Wd) (ab : Wd × Wd × Unit → Bool) (r i a h l : Int) (c : Con) (x : Nat → AV) (lo hi step : Nat) :
    run Try.prog (callN Try.prog { gam := [(172, S0c mp mv), (173, S0 ab)] } 1) 40 { quiet := isSum [(172, S0c mp mv), (173, S0 ab)] } [] 50 (Ex × St) (loopOf (blkOf Try.f139 0)) (sqSt r i a h l c x lo hi step) (fun e s' => some (e, maskSt sqG s')) =
      bif decide (i ≥ 0) then bif decide (i < 0) then none else
        bif mp (⟨bitAt r i⟩, ⟨bitAt r i⟩, ()) then
          bif !ab (⟨(mv (⟨bitAt r i⟩, ⟨bitAt r i⟩, ())).h, (mv (⟨bitAt r i⟩, ⟨bitAt r i⟩, ())).l⟩, ⟨h, l⟩, ()) then some (.normal, sqSt (bitAt r i) (IntKind.i64.wrap (i - 1)) a h l c x lo hi step)
          else some (.normal, sqSt r (IntKind.i64.wrap (i - 1)) a h l c x lo hi step)
        else none
      else some (.exit 0, sqSt r i a h l c x lo hi step) := by kernel_rfl
def nmSl : Slots := [(10, .int .u64), (11, .int .i64)]
def nmFx : List (Nat × Nat × Nat) := [(9, 3064991081731777716716694054300618367237478244367208448, 0)]
def nmRows : Rows' := [(4096, 2, [.i64, .i64, .i64]), (3064991081731777716716694054300618367237478244367208448, 171, [.u64, .u64])]
def nmG : List Nat := 12 :: nums 37 18
def nmSt (r i a b c' h l : Int) (c : Con) (x : Nat → AV) (lo hi step : Nat) : St := lrSt 55 nmSl nmFx nmG c nmRows [r, i, a, b, c', h, l] x lo hi step
theorem nmTmps : Try.f142.ntmps = 55 := by kernel_rfl
theorem sqTmps : Try.f139.ntmps = 40 := by kernel_rfl
theorem nmRound (mp : U6 × U6 × Unit → Bool) (mv : U6 × U6 × Unit → Wd) (ab : Wd × Wd × Unit → Bool) (r i a b c' h l : Int) (c : Con) (x : Nat → AV) (lo hi step : Nat) :
    run Try.prog (callN Try.prog { gam := [(172, S0c mp mv), (173, S0 ab)] } 1) 55 { quiet := isSum [(172, S0c mp mv), (173, S0 ab)] } [] 50 (Ex × St) (loopOf (blkOf Try.f142 0)) (nmSt r i a b c' h l c x lo hi step) (fun e s' => some (e, maskSt nmG s')) =
      bif decide (i ≥ 0) then bif decide (i < 0) then none else
        bif mp (⟨bitAt r i⟩, ⟨bitAt r i⟩, ()) then
          bif !ab (⟨(mv (⟨bitAt r i⟩, ⟨bitAt r i⟩, ())).h, (mv (⟨bitAt r i⟩, ⟨bitAt r i⟩, ())).l⟩, ⟨h, l⟩, ()) then some (.normal, nmSt (bitAt r i) (IntKind.i64.wrap (i - 1)) a b c' h l c x lo hi step)
          else some (.normal, nmSt r (IntKind.i64.wrap (i - 1)) a b c' h l c x lo hi step)
        else none
      else some (.exit 0, nmSt r i a b c' h l c x lo hi step) := by kernel_rfl
end Go.Ab
namespace Go.Ab
open Go Go.Proofs
def sqPostV (R : Int → Int → Int → Int → Int → Int) : List Int → List Int
  | [r, i, a, h, l] => [R r i a h l, -1, a, h, l]
  | xs => xs
def nmPostV (R : Int → Int → Int → Int → Int) : List Int → List Int
  | [r, i, a, b, c, h, l] => [R r i h l, -1, a, b, c, h, l]
  | xs => xs
theorem sqrt139 (mp : U6 × U6 × Unit → Bool) (mv : U6 × U6 × Unit → Wd) (gv : Bool → U6 × Bool × Unit → Int × Bool) (p : List Int → Bool) (R : Int → Int → Int → Int → Int → Int) (a : Int) (f : Bool) :
    fnSum Try.prog { gam := [(172, S0c mp mv), (174, S 27 gv)] } [(0, lrHint 40 sqSl sqFx sqG sqRows p (sqPostV R))] 20 139 [.ptr 0 0, .val (.int .i64 a)] (row 27 f) =
    rtk [a] f fun f => bif !!f then some (.val (.int .i64 0), row 27 f) else bif decide (a < 0) then some (.val (.int .i64 0), row 27 true) else
      bif mp (⟨IntKind.u64.wrap a⟩, ⟨1099511627776⟩, ()) then
        let m := mv (⟨IntKind.u64.wrap a⟩, ⟨1099511627776⟩, ())
        bif p [0, 51, a, m.h, m.l] then some (.val (.int .i64 (gv f (⟨R 0 51 a m.h m.l⟩, false, ())).1), row 27 (gv f (⟨R 0 51 a m.h m.l⟩, false, ())).2) else none
      else none := by kernel_rfl
theorem norm142 (mp : U6 × U6 × Unit → Bool) (mv : U6 × U6 × Unit → Wd) (av : Wd × Wd × Unit → Wd) (sz : Int × Unit → U6) (gv : Bool → U6 × Bool × Unit → Int × Bool) (p : List Int → Bool) (R : Int → Int → Int → Int → Int) (a b c : Int) (f : Bool) :
    fnSum Try.prog { gam := [(172, S0c mp mv), (174, S 27 gv), (178, S0 av), (179, S0 sz)] } [(0, lrHint 55 nmSl nmFx nmG nmRows p (nmPostV R))] 20 142 [.ptr 0 0, .val (.int .i64 a), .val (.int .i64 b), .val (.int .i64 c)] (row 27 f) =
    rtk [a, b, c] f fun f => bif !!f then some (.val (.int .i64 0), row 27 f) else
      let sq := fun (x : Int) => mv (⟨(sz (x, ())).n⟩, ⟨(sz (x, ())).n⟩, ())
      bif mp (⟨(sz (a, ())).n⟩, ⟨(sz (a, ())).n⟩, ()) then bif mp (⟨(sz (b, ())).n⟩, ⟨(sz (b, ())).n⟩, ()) then bif mp (⟨(sz (c, ())).n⟩, ⟨(sz (c, ())).n⟩, ()) then
        let s := av (⟨(sq a).h, (sq a).l⟩, ⟨(sq b).h, (sq b).l⟩, ())
        let m := av (⟨s.h, s.l⟩, ⟨(sq c).h, (sq c).l⟩, ())
        bif p [0, 62, a, b, c, m.h, m.l] then some (.val (.int .i64 (gv f (⟨R 0 62 m.h m.l⟩, false, ())).1), row 27 (gv f (⟨R 0 62 m.h m.l⟩, false, ())).2) else none
      else none else none else none := by kernel_rfl
theorem sqBlocks : blocksOf (Try.f139.body.getD .skip) = [(0, .loop (loopOf (blkOf Try.f139 0))), (1, blkOf Try.f139 1)] := by kernel_rfl
theorem nmBlocks : blocksOf (Try.f142.body.getD .skip) = [(0, .loop (loopOf (blkOf Try.f142 0))), (1, blkOf Try.f142 1)] := by kernel_rfl
end Go.Ab
/- The document's Sqrt and Norm. -/
namespace Go.Ab
open Go Go.Proofs
def bpre (r i h l : Int) : Bool := word h && (word l && decide (-1 ≤ i ∧ i ≤ 62 ∧ 0 ≤ r ∧ r + 2 ^ (i + 1).toNat ≤ 9223372036854775808))
def bR (r i h l : Int) : Int := isqB (i + 1).toNat r (h * 18446744073709551616 + l)
theorem notAb {t h l : Int} (hl : word l = true) : (!abV (⟨t * t / 18446744073709551616, t * t % 18446744073709551616⟩, ⟨h, l⟩, ())) = decide (t * t ≤ h * 18446744073709551616 + l) := by
  simp only [word, decide_eq_true_eq] at hl
  unfold abV
  dsimp only
  rw [Bool.eq_iff_iff, Bool.not_eq_true', Bool.or_eq_false_iff, Bool.and_eq_false_iff, decide_eq_true_eq, decide_eq_false_iff_not, decide_eq_false_iff_not, beq_eq_false_iff_ne]
  generalize t * t = N at *
  omega
theorem bStep {r i h l : Int} (hp : bpre r i h l = true) :
    (i ≥ 0 → ¬ i < 0 ∧ mulPre (⟨bitAt r i⟩, ⟨bitAt r i⟩, ()) = true ∧ IntKind.i64.wrap (i - 1) = i - 1 ∧
      ∀ r', r' = (bif !abV (⟨(timesVal (⟨bitAt r i⟩, ⟨bitAt r i⟩, ())).h, (timesVal (⟨bitAt r i⟩, ⟨bitAt r i⟩, ())).l⟩, ⟨h, l⟩, ()) then bitAt r i else r) →
      bpre r' (i - 1) h l = true ∧ bR r' (i - 1) h l = bR r i h l ∧ (i - 1 + 1).toNat < (i + 1).toNat) ∧
    (¬ i ≥ 0 → i = -1 ∧ bR r i h l = r) := by
  simp only [bpre, Bool.and_eq_true, decide_eq_true_eq] at hp
  obtain ⟨hh, hl, h1, h2, h3, h4⟩ := hp
  refine ⟨fun h0 => ?_, fun h0 => ?_⟩
  · obtain ⟨n, rfl⟩ : ∃ n : Nat, i = n := ⟨i.toNat, by omega⟩
    have e1 : ((n : Int) + 1).toNat = n + 1 := by omega
    have e2 : ((n : Int) - 1 + 1).toNat = n := by omega
    have hk := two_pow_pos n
    have hs := two_pow_succ n
    rw [e1] at h4
    have hb : bitAt r n = r + 2 ^ n := by
      have : shI 1 n = 1 * 2 ^ n % 18446744073709551616 := shI_eq 1 n (by omega)
      unfold bitAt
      rw [this, Int.one_mul, Int.emod_eq_of_lt (by omega) (by omega), wrap_u64_id (by omega) (by omega)]
    rw [hb]
    refine ⟨by omega, by simp only [mulPre, word, Bool.and_eq_true, decide_eq_true_eq]; omega, wrap_i64_id (by omega) (by omega), fun r' hr' => ?_⟩
    have hr' : r' = bif decide ((r + 2 ^ n) * (r + 2 ^ n) ≤ h * 18446744073709551616 + l) then r + 2 ^ n else r := by
      rw [hr', ← notAb hl]; rfl
    refine ⟨?_, ?_, by omega⟩
    · simp only [bpre, Bool.and_eq_true, decide_eq_true_eq, e2]
      refine ⟨hh, hl, by omega, by omega, ?_⟩
      cases hc : decide ((r + 2 ^ n) * (r + 2 ^ n) ≤ h * 18446744073709551616 + l) <;> rw [hc] at hr' <;> simp only [cond_true, cond_false] at hr' <;> subst hr' <;> omega
    · simp only [bR, e1, e2, isqB]
      subst hr'
      cases decide ((r + 2 ^ n) * (r + 2 ^ n) ≤ h * 18446744073709551616 + l) <;> rfl
  · have : i = -1 := by omega
    subst this
    exact ⟨rfl, rfl⟩
def sqpre : List Int → Bool
  | [r, i, _, h, l] => bpre r i h l
  | _ => false
def sqpost : List Int → List Int := sqPostV fun r i _ h l => bR r i h l
def nmpre : List Int → Bool
  | [r, i, _, _, _, h, l] => bpre r i h l
  | _ => false
def nmpost : List Int → List Int := nmPostV bR
theorem hcallS : ∀ β, CallOk Try.prog (callN Try.prog { gam := [(172, S0c mulPre timesVal), (173, S0 abV)] } 1 β) := callN_ok (.cons ok172 (.cons ok173 .nil)) 1
def sqHints : Hints := [(0, lrHint 40 sqSl sqFx sqG sqRows sqpre sqpost)]
def nmHints : Hints := [(0, lrHint 55 nmSl nmFx nmG nmRows nmpre nmpost)]
theorem sqFit : ∀ fn c, Try.prog.funcs[139]? = some fn → fn.body = some c → HFit Try.prog fn.ntmps sqHints c := by
  intro fn c hf hb
  rw [Try.func139] at hf
  cases hf
  have hc : Try.f139.body.getD .skip = c := by rw [hb]; rfl
  rw [sqTmps]
  have hL := sqBlocks
  rw [hc] at hL
  refine HFit.of fun p hp h hh s s' hs => ?_
  rw [hL] at hp
  simp only [List.mem_cons, List.not_mem_nil, or_false] at hp
  rcases hp with rfl | rfl
  · have : h = lrHint 40 sqSl sqFx sqG sqRows sqpre sqpost := (Option.some.inj hh).symm
    subst this
    refine lr_ok hcallS (F := 50) (wy := { quiet := isSum [(172, S0c mulPre timesVal), (173, S0 abV)] }) (fun xs => (xs.getD 1 0 + 1).toNat) ?_ s s' hs
    intro xs hlen hpre cc x lo hi step
    obtain ⟨r, i, a, hw, l, rfl⟩ : ∃ r i a h l, xs = [r, i, a, h, l] := by
      match xs, hlen with
      | [a, b, c, d, e], _ => exact ⟨a, b, c, d, e, rfl⟩
    have hr := sqRound mulPre timesVal abV r i a hw l cc x lo hi step
    unfold sqSt at hr
    rw [hr]
    obtain ⟨h1, h2⟩ := bStep (r := r) (i := i) (h := hw) (l := l) hpre
    by_cases hge : i ≥ 0
    · obtain ⟨k1, k2, k3, k4⟩ := h1 hge
      simp only [hge, k1, k2, k3, decide_true, decide_false, cond_true, cond_false]
      have key : ∀ r', bpre r' (i - 1) hw l = true ∧ bR r' (i - 1) hw l = bR r i hw l ∧ (i - 1 + 1).toNat < (i + 1).toNat →
          ∃ ys, ys.length = shLen sqSl + rowLen sqRows ∧ sqpre ys = true ∧ (ys.getD 1 0 + 1).toNat < ([r, i, a, hw, l].getD 1 0 + 1).toNat ∧ sqpost ys = sqpost [r, i, a, hw, l] ∧
            (some (Ex.normal, lrSt 40 sqSl sqFx sqG cc sqRows [r', i - 1, a, hw, l] x lo hi step) : Option (Ex × St)) = some (.normal, lrSt 40 sqSl sqFx sqG cc sqRows ys x lo hi step) := by
        intro r' hr'
        exact ⟨[r', i - 1, a, hw, l], rfl, hr'.1, by simpa only [List.getD_cons_succ, List.getD_cons_zero] using hr'.2.2, by simp only [sqpost, sqPostV, hr'.2.1], rfl⟩
      cases hc : !abV (⟨(timesVal (⟨bitAt r i⟩, ⟨bitAt r i⟩, ())).h, (timesVal (⟨bitAt r i⟩, ⟨bitAt r i⟩, ())).l⟩, ⟨hw, l⟩, ()) <;> rw [hc] at k4
      · exact .inl (key _ (k4 _ rfl))
      · exact .inl (key _ (k4 _ rfl))
    · obtain ⟨rfl, k2⟩ := h2 hge
      simp only [hge, decide_false, cond_false]
      refine .inr ?_
      simp only [sqpost, sqPostV, k2]
  · simp [findH, sqHints] at hh
theorem nmFit : ∀ fn c, Try.prog.funcs[142]? = some fn → fn.body = some c → HFit Try.prog fn.ntmps nmHints c := by
  intro fn c hf hb
  rw [Try.func142] at hf
  cases hf
  have hc : Try.f142.body.getD .skip = c := by rw [hb]; rfl
  rw [nmTmps]
  have hL := nmBlocks
  rw [hc] at hL
  refine HFit.of fun p hp h hh s s' hs => ?_
  rw [hL] at hp
  simp only [List.mem_cons, List.not_mem_nil, or_false] at hp
  rcases hp with rfl | rfl
  · have : h = lrHint 55 nmSl nmFx nmG nmRows nmpre nmpost := (Option.some.inj hh).symm
    subst this
    refine lr_ok hcallS (F := 50) (wy := { quiet := isSum [(172, S0c mulPre timesVal), (173, S0 abV)] }) (fun xs => (xs.getD 1 0 + 1).toNat) ?_ s s' hs
    intro xs hlen hpre cc x lo hi step
    obtain ⟨r, i, a, b, c, hw, l, rfl⟩ : ∃ r i a b c h l, xs = [r, i, a, b, c, h, l] := by
      match xs, hlen with
      | [a, b, c, d, e, f, g], _ => exact ⟨a, b, c, d, e, f, g, rfl⟩
    have hr := nmRound mulPre timesVal abV r i a b c hw l cc x lo hi step
    unfold nmSt at hr
    rw [hr]
    obtain ⟨h1, h2⟩ := bStep (r := r) (i := i) (h := hw) (l := l) hpre
    by_cases hge : i ≥ 0
    · obtain ⟨k1, k2, k3, k4⟩ := h1 hge
      simp only [hge, k1, k2, k3, decide_true, decide_false, cond_true, cond_false]
      have key : ∀ r', bpre r' (i - 1) hw l = true ∧ bR r' (i - 1) hw l = bR r i hw l ∧ (i - 1 + 1).toNat < (i + 1).toNat →
          ∃ ys, ys.length = shLen nmSl + rowLen nmRows ∧ nmpre ys = true ∧ (ys.getD 1 0 + 1).toNat < ([r, i, a, b, c, hw, l].getD 1 0 + 1).toNat ∧ nmpost ys = nmpost [r, i, a, b, c, hw, l] ∧
            (some (Ex.normal, lrSt 55 nmSl nmFx nmG cc nmRows [r', i - 1, a, b, c, hw, l] x lo hi step) : Option (Ex × St)) = some (.normal, lrSt 55 nmSl nmFx nmG cc nmRows ys x lo hi step) := by
        intro r' hr'
        exact ⟨[r', i - 1, a, b, c, hw, l], rfl, hr'.1, by simpa only [List.getD_cons_succ, List.getD_cons_zero] using hr'.2.2, by simp only [nmpost, nmPostV, hr'.2.1], rfl⟩
      cases hc : !abV (⟨(timesVal (⟨bitAt r i⟩, ⟨bitAt r i⟩, ())).h, (timesVal (⟨bitAt r i⟩, ⟨bitAt r i⟩, ())).l⟩, ⟨hw, l⟩, ()) <;> rw [hc] at k4
      · exact .inl (key _ (k4 _ rfl))
      · exact .inl (key _ (k4 _ rfl))
    · obtain ⟨rfl, k2⟩ := h2 hge
      simp only [hge, decide_false, cond_false]
      refine .inr ?_
      simp only [nmpost, nmPostV, k2]
  · simp [findH, nmHints] at hh
theorem S_okH {α ω : Type} [Args α] [Cod ω] {P : Program} {E : Env} (hG : GamOk P E.gam) {hB : Hints} {f : FuncId} {e : TypeId} {g : Bool → α → ω × Bool} (hfit : ∀ fn c, P.funcs[f]? = some fn → fn.body = some c → HFit P fn.ntmps hB c) (d : Nat)
    (h : ∀ b a, fnSum P E hB d f (.ptr 0 0 :: Args.encs a) (row e b) = some (.val (Cod.enc (g b a).1), row e (g b a).2)) : SumOk P f (S e g) := by
  refine sumOk_ofH hG hfit fun args cs r cs' hs => ?_
  obtain ⟨b, a, rfl, rfl, rfl, rfl⟩ := S_sel hs
  exact ⟨by simp [row], d, h b a⟩
theorem Sc_okH {α ω : Type} [Args α] [Cod ω] {P : Program} {E : Env} (hG : GamOk P E.gam) {hB : Hints} {f : FuncId} {e : TypeId} {pre : α → Bool} {g : Bool → α → ω × Bool} (hfit : ∀ fn c, P.funcs[f]? = some fn → fn.body = some c → HFit P fn.ntmps hB c) (d : Nat)
    (h : ∀ b a, pre a = true → fnSum P E hB d f (.ptr 0 0 :: Args.encs a) (row e b) = some (.val (Cod.enc (g b a).1), row e (g b a).2)) : SumOk P f (Sc e pre g) := by
  refine sumOk_ofH hG hfit fun args cs r cs' hs => ?_
  obtain ⟨b, a, hp, rfl, rfl, rfl, rfl⟩ := Sc_sel hs
  exact ⟨by simp [row], d, h b a hp⟩
theorem gvU_num {f : Bool} {q : Int} (h0 : 0 ≤ q) (h1 : q < 9223372036854775808) : gvU f (⟨q⟩, false, ()) = bif decide (q > 4611686018427387904) then (0, true) else (q, f) := by
  unfold gvU
  dsimp only
  rw [wrap_i64_id (z := q) (by omega) (by omega)]
  rfl
theorem ok139 : SumOk Try.prog 139 (S 27 (op1 fsqrt)) := by
  have hG : GamOk Try.prog [(172, S0c mulPre timesVal), (174, S 27 gvU)] := .cons ok172 (.cons ok174 .nil)
  refine S_okH (E := { gam := [(172, S0c mulPre timesVal), (174, S 27 gvU)] }) hG (hB := sqHints) sqFit 20 fun f p => ?_
  obtain ⟨a, _⟩ := p
  refine ((sqrt139 mulPre timesVal gvU sqpre (fun r i _ h l => bR r i h l) a f).trans (rtk_eq _ _ _)).trans ?_
  show _ = some (AV.val (Cod.enc (fsqrt f a).1), row 27 (fsqrt f a).2)
  unfold fsqrt
  cases hb : (f || !nums? [a]) with
  | true => rfl
  | false =>
    simp only [Bool.or_eq_false_iff, Bool.not_eq_false', nums?, Bool.and_true, num_iff] at hb
    obtain ⟨rfl, ha⟩ := hb
    by_cases h0 : a < 0
    · simp only [h0, decide_true, cond_true]; rfl
    · have hw : IntKind.u64.wrap a = a := wrap_u64_id (by omega) (by omega)
      have hm : mulPre (⟨a⟩, ⟨1099511627776⟩, ()) = true := by simp only [mulPre, word, Bool.and_eq_true, decide_eq_true_eq]; omega
      have hv : timesVal (⟨a⟩, ⟨1099511627776⟩, ()) = ⟨a * 1099511627776 / 18446744073709551616, a * 1099511627776 % 18446744073709551616⟩ := rfl
      obtain ⟨b0, b1⟩ := sqrt_bound (a := a) (by omega) (by omega)
      obtain ⟨i0, i1⟩ := isq_num b0 b1
      simp only [h0, hw, hm, hv, decide_false, cond_false, cond_true, Bool.not_false, Bool.not_true]
      have hpre : sqpre [0, 51, a, a * 1099511627776 / 18446744073709551616, a * 1099511627776 % 18446744073709551616] = true := by
        have e102 : (2 : Int) ^ 102 = 5070602400912917605986812821504 := by decide
        simp only [sqpre, bpre, word, Bool.and_eq_true, decide_eq_true_eq]
        refine ⟨by omega, by omega, by omega, by omega, by omega, by decide⟩
      have hR : bR 0 51 (a * 1099511627776 / 18446744073709551616) (a * 1099511627776 % 18446744073709551616) = isq (a * 1099511627776) := by
        unfold bR
        rw [show a * 1099511627776 / 18446744073709551616 * 18446744073709551616 + a * 1099511627776 % 18446744073709551616 = a * 1099511627776 by omega]
        exact isqB_52 b0 (Int.lt_of_lt_of_le b1 (by decide))
      rw [hpre, hR, cond_true, gvU_num i0 (by omega), show decide (isq (a * 1099511627776) > 4611686018427387904) = false by simp; omega]
      rfl
theorem ok142 : SumOk Try.prog 142 (S 27 (op3 fnorm)) := by
  have hG : GamOk Try.prog [(172, S0c mulPre timesVal), (174, S 27 gvU), (178, S0 adV), (179, S0 szU)] := .cons ok172 (.cons ok174 (.cons ok178 (.cons ok179 .nil)))
  refine S_okH (E := { gam := [(172, S0c mulPre timesVal), (174, S 27 gvU), (178, S0 adV), (179, S0 szU)] }) hG (hB := nmHints) nmFit 20 fun f p => ?_
  obtain ⟨a, b, c, _⟩ := p
  refine ((norm142 mulPre timesVal adV szU gvU nmpre bR a b c f).trans (rtk_eq _ _ _)).trans ?_
  show _ = some (AV.val (Cod.enc (fnorm f a b c).1), row 27 (fnorm f a b c).2)
  unfold fnorm
  cases hb : (f || !nums? [a, b, c]) with
  | true => rfl
  | false =>
    obtain ⟨rfl, ha, hb', hc⟩ := nums3 hb
    obtain ⟨a3, a4⟩ := iabs_num ha
    obtain ⟨b3, b4⟩ := iabs_num hb'
    obtain ⟨c3, c4⟩ := iabs_num hc
    obtain ⟨a5, a6⟩ := num_sq ha
    obtain ⟨b5, b6⟩ := num_sq hb'
    obtain ⟨c5, c6⟩ := num_sq hc
    have hm : ∀ x : Int, 0 ≤ x → x ≤ 4611686018427387904 → mulPre (⟨x⟩, ⟨x⟩, ()) = true := by
      intro x h0 h1
      simp only [mulPre, word, Bool.and_eq_true, decide_eq_true_eq]; omega
    have hok : ∀ N : Int, 0 ≤ N → N ≤ 63802943797675961899382738893456539648 → (Wd.mk (N / 18446744073709551616) (N % 18446744073709551616)).ok = true ∧ (Wd.mk (N / 18446744073709551616) (N % 18446744073709551616)).val = N := by
      intro N h0 h1
      simp only [Wd.ok, Wd.val, word, Bool.and_eq_true, decide_eq_true_eq]; omega
    have hsum : ∀ M N : Int, 0 ≤ M → 0 ≤ N → M + N ≤ 63802943797675961899382738893456539648 → adV (⟨M / 18446744073709551616, M % 18446744073709551616⟩, ⟨N / 18446744073709551616, N % 18446744073709551616⟩, ()) = ⟨(M + N) / 18446744073709551616, (M + N) % 18446744073709551616⟩ := by
      intro M N h0 h1 h2
      obtain ⟨k1, k2⟩ := adV_val (hok M h0 (by omega)).1 (hok N h1 (by omega)).1
      rw [(hok M h0 (by omega)).2, (hok N h1 (by omega)).2, Int.emod_eq_of_lt (a := M + N) (by omega) (by omega)] at k2
      generalize adV (⟨M / 18446744073709551616, M % 18446744073709551616⟩, ⟨N / 18446744073709551616, N % 18446744073709551616⟩, ()) = D at *
      obtain ⟨dh, dl⟩ := D
      simp only [Wd.ok, Wd.val, word, Bool.and_eq_true, decide_eq_true_eq] at k1 k2
      congr 1 <;> omega
    have ht : ∀ x : Int, timesVal (⟨x⟩, ⟨x⟩, ()) = ⟨x * x / 18446744073709551616, x * x % 18446744073709551616⟩ := fun x => rfl
    simp only [szU_num ha, szU_num hb', szU_num hc, hm _ a3 a4, hm _ b3 b4, hm _ c3 c4, ht, iabs_sq, Bool.not_false, Bool.not_true, cond_false, cond_true, hsum _ _ a5 b5 (by omega), hsum (a * a + b * b) (c * c) (by omega) c5 (by omega)]
    generalize hW : a * a + b * b + c * c = W at *
    have e126 : (2 : Int) ^ 126 = 85070591730234615865843651857942052864 := by decide
    have e63 : (2 : Int) ^ 63 = 9223372036854775808 := by decide
    obtain ⟨i0, i1, _, _⟩ := isq_spec (W := W) (by omega) (by omega)
    have hpre : nmpre [0, 62, a, b, c, W / 18446744073709551616, W % 18446744073709551616] = true := by
      simp only [nmpre, bpre, word, Bool.and_eq_true, decide_eq_true_eq]
      refine ⟨by omega, by omega, by omega, by omega, by omega, by decide⟩
    have hR : bR 0 62 (W / 18446744073709551616) (W % 18446744073709551616) = isq W := by
      unfold bR
      rw [show W / 18446744073709551616 * 18446744073709551616 + W % 18446744073709551616 = W by omega]
      rfl
    rw [hpre, hR, cond_true, gvU_num i0 (by omega)]
    cases decide (isq W > 4611686018427387904) <;> rfl
end Go.Ab
