/- A part of the proof of 'VecScale': lemmas, no statement of their own; no condition. -/
import Derived.Test.YtgccejhdohpojaaFxA
import Derived.Test.YtgccejhdohpojaaProg
import Derived.KernelRfl
namespace Go.Ab
open Go Go.Proofs
set_option linter.unusedVariables false
set_option linter.unusedSimpArgs false
theorem add124 (x y : Int) (b : Bool) : fnSum Try.prog {gam := []} [] 20 124 [.ptr 0 0, .val (.int .i64 x), .val (.int .i64 y)] (row 25 b) =
  (bif b then some (AV.val (Value.int IntKind.i64 0), [Con.row 25 [AV.val (Value.bool true)]])
   else
     bif bif false then true else decide (x > 4611686018427387904) then
       some (AV.val (Value.int IntKind.i64 0), [Con.row 25 [AV.val (Value.bool true)]])
     else
       bif bif false then true else decide (x < -4611686018427387904) then
         some (AV.val (Value.int IntKind.i64 0), [Con.row 25 [AV.val (Value.bool true)]])
       else
         bif bif false then true else decide (y > 4611686018427387904) then
           some (AV.val (Value.int IntKind.i64 0), [Con.row 25 [AV.val (Value.bool true)]])
         else
           bif !!bif false then true else decide (y < -4611686018427387904) then
             some
               (AV.val (Value.int IntKind.i64 0),
                 [Con.row 25 [AV.val (Value.bool (bif false then true else decide (y < -4611686018427387904)))]])
           else
             bif x == 4611686018427387904 then
               bif !!bif true then y == 4611686018427387904 else false then
                 some (AV.val (Value.int IntKind.i64 0), [Con.row 25 [AV.val (Value.bool true)]])
               else
                 bif bif false then true else decide (IntKind.i64.wrap (x + y) > 4611686018427387904) then
                   some (AV.val (Value.int IntKind.i64 0), [Con.row 25 [AV.val (Value.bool true)]])
                 else
                   bif bif false then true else decide (IntKind.i64.wrap (x + y) < -4611686018427387904) then
                     some (AV.val (Value.int IntKind.i64 0), [Con.row 25 [AV.val (Value.bool true)]])
                   else
                     some
                       (AV.val (Value.int IntKind.i64 (IntKind.i64.wrap (x + y))),
                         [Con.row 25 [AV.val (Value.bool (bif false then true else decide (y < -4611686018427387904)))]])
             else
               bif bif false then true else decide (IntKind.i64.wrap (x + y) > 4611686018427387904) then
                 some (AV.val (Value.int IntKind.i64 0), [Con.row 25 [AV.val (Value.bool true)]])
               else
                 bif bif false then true else decide (IntKind.i64.wrap (x + y) < -4611686018427387904) then
                   some (AV.val (Value.int IntKind.i64 0), [Con.row 25 [AV.val (Value.bool true)]])
                 else
                   some
                     (AV.val (Value.int IntKind.i64 (IntKind.i64.wrap (x + y))),
                       [Con.row 25 [AV.val (Value.bool (bif false then true else decide (y < -4611686018427387904)))]])) := by kernel_rfl
theorem add125 (x y : Int) (b : Bool) : fnSum Try.prog {gam := []} [] 20 125 [.ptr 0 0, .val (.int .i64 x), .val (.int .i64 y)] (row 27 b) =
  (bif decide (x ≥ -4611686018427387904) then
     bif !bif true then decide (x ≤ 4611686018427387904) else false then
       bif decide (y ≥ -4611686018427387904) then
         bif !bif true then decide (y ≤ 4611686018427387904) else false then
           some (AV.val (Value.int IntKind.i64 0), [Con.row 27 [AV.val (Value.bool true)]])
         else some (AV.val (Value.int IntKind.i64 0), [Con.row 27 [AV.val (Value.bool true)]])
       else some (AV.val (Value.int IntKind.i64 0), [Con.row 27 [AV.val (Value.bool true)]])
     else
       bif decide (y ≥ -4611686018427387904) then
         bif !bif true then decide (y ≤ 4611686018427387904) else false then
           some (AV.val (Value.int IntKind.i64 0), [Con.row 27 [AV.val (Value.bool true)]])
         else
           bif !!b then some (AV.val (Value.int IntKind.i64 0), [Con.row 27 [AV.val (Value.bool b)]])
           else
             bif
                 decide
                   (IntKind.i64.wrap
                       (IntKind.i64.wrap (IntKind.i64.wrap (x.tdiv 2) + IntKind.i64.wrap (y.tdiv 2)) +
                         IntKind.i64.wrap ((IntKind.i64.wrap (x.tmod 2 + y.tmod 2)).tdiv 2)) >
                     2305843009213693952) then
               some (AV.val (Value.int IntKind.i64 0), [Con.row 27 [AV.val (Value.bool true)]])
             else
               bif
                   bif false then true
                   else
                     decide
                       (IntKind.i64.wrap
                           (IntKind.i64.wrap (IntKind.i64.wrap (x.tdiv 2) + IntKind.i64.wrap (y.tdiv 2)) +
                             IntKind.i64.wrap ((IntKind.i64.wrap (x.tmod 2 + y.tmod 2)).tdiv 2)) <
                         -2305843009213693952) then
                 some (AV.val (Value.int IntKind.i64 0), [Con.row 27 [AV.val (Value.bool true)]])
               else
                 bif decide (IntKind.i64.wrap (x + y) ≥ -4611686018427387904) then
                   bif
                       bif false then true
                       else !bif true then decide (IntKind.i64.wrap (x + y) ≤ 4611686018427387904) else false then
                     some (AV.val (Value.int IntKind.i64 0), [Con.row 27 [AV.val (Value.bool true)]])
                   else
                     some (AV.val (Value.int IntKind.i64 (IntKind.i64.wrap (x + y))), [Con.row 27 [AV.val (Value.bool b)]])
                 else some (AV.val (Value.int IntKind.i64 0), [Con.row 27 [AV.val (Value.bool true)]])
       else some (AV.val (Value.int IntKind.i64 0), [Con.row 27 [AV.val (Value.bool true)]])
   else
     bif decide (y ≥ -4611686018427387904) then
       bif !bif true then decide (y ≤ 4611686018427387904) else false then
         some (AV.val (Value.int IntKind.i64 0), [Con.row 27 [AV.val (Value.bool true)]])
       else some (AV.val (Value.int IntKind.i64 0), [Con.row 27 [AV.val (Value.bool true)]])
     else some (AV.val (Value.int IntKind.i64 0), [Con.row 27 [AV.val (Value.bool true)]])) := by kernel_rfl
theorem sub127 (o : Bool → Int × Int × Unit → Int × Bool) (x y : Int) (b : Bool) : fnSum Try.prog {gam := [(124, S 25 o)]} [] 20 127 [.ptr 0 0, .val (.int .i64 x), .val (.int .i64 y)] (row 25 b) =
  (bif b then some (AV.val (Value.int IntKind.i64 0), [Con.row 25 [AV.val (Value.bool true)]])
   else
     bif bif false then true else decide (x > 4611686018427387904) then
       some (AV.val (Value.int IntKind.i64 0), [Con.row 25 [AV.val (Value.bool true)]])
     else
       bif bif false then true else decide (x < -4611686018427387904) then
         some (AV.val (Value.int IntKind.i64 0), [Con.row 25 [AV.val (Value.bool true)]])
       else
         bif bif false then true else decide (y > 4611686018427387904) then
           some (AV.val (Value.int IntKind.i64 0), [Con.row 25 [AV.val (Value.bool true)]])
         else
           bif !!bif false then true else decide (y < -4611686018427387904) then
             some
               (AV.val (Value.int IntKind.i64 0),
                 [Con.row 25 [AV.val (Value.bool (bif false then true else decide (y < -4611686018427387904)))]])
           else
             some
               (AV.val
                   (Value.int IntKind.i64
                     (o (bif false then true else decide (y < -4611686018427387904))
                         (x, IntKind.i64.wrap (0 - y), ())).fst),
                 [Con.row 25
                     [AV.val
                         (Value.bool
                           (o (bif false then true else decide (y < -4611686018427387904))
                               (x, IntKind.i64.wrap (0 - y), ())).snd)]])) := by kernel_rfl
theorem sub128 (o : Bool → Int × Int × Unit → Int × Bool) (x y : Int) (b : Bool) : fnSum Try.prog {gam := [(125, S 27 o)]} [] 20 128 [.ptr 0 0, .val (.int .i64 x), .val (.int .i64 y)] (row 27 b) =
  (bif decide (x ≥ -4611686018427387904) then
     bif !bif true then decide (x ≤ 4611686018427387904) else false then
       bif decide (y ≥ -4611686018427387904) then
         bif !bif true then decide (y ≤ 4611686018427387904) else false then
           some (AV.val (Value.int IntKind.i64 0), [Con.row 27 [AV.val (Value.bool true)]])
         else some (AV.val (Value.int IntKind.i64 0), [Con.row 27 [AV.val (Value.bool true)]])
       else some (AV.val (Value.int IntKind.i64 0), [Con.row 27 [AV.val (Value.bool true)]])
     else
       bif decide (y ≥ -4611686018427387904) then
         bif !bif true then decide (y ≤ 4611686018427387904) else false then
           some (AV.val (Value.int IntKind.i64 0), [Con.row 27 [AV.val (Value.bool true)]])
         else
           bif !!b then some (AV.val (Value.int IntKind.i64 0), [Con.row 27 [AV.val (Value.bool b)]])
           else
             some
               (AV.val (Value.int IntKind.i64 (o b (x, IntKind.i64.wrap (0 - y), ())).fst),
                 [Con.row 27 [AV.val (Value.bool (o b (x, IntKind.i64.wrap (0 - y), ())).snd)]])
       else some (AV.val (Value.int IntKind.i64 0), [Con.row 27 [AV.val (Value.bool true)]])
   else
     bif decide (y ≥ -4611686018427387904) then
       bif !bif true then decide (y ≤ 4611686018427387904) else false then
         some (AV.val (Value.int IntKind.i64 0), [Con.row 27 [AV.val (Value.bool true)]])
       else some (AV.val (Value.int IntKind.i64 0), [Con.row 27 [AV.val (Value.bool true)]])
     else some (AV.val (Value.int IntKind.i64 0), [Con.row 27 [AV.val (Value.bool true)]])) := by kernel_rfl
theorem add124_is (x y : Int) (b : Bool) : fnSum Try.prog {gam := []} [] 20 124 [.ptr 0 0, .val (.int .i64 x), .val (.int .i64 y)] (row 25 b) = some (.val (.int .i64 (fadd b x y).1), row 25 (fadd b x y).2) := by
  rw [add124]
  unfold fadd num row
  cases b
  · simp only [cond_false, Bool.not_false, Bool.true_and, cond_true]
    by_cases h1 : x > 4611686018427387904
    · have : decide (x ≤ 4611686018427387904) = false := by simp; omega
      simp [h1, this]
    by_cases h2 : x < -4611686018427387904
    · have : decide (-4611686018427387904 ≤ x) = false := by simp; omega
      simp [h1, h2, this]
    by_cases h3 : y > 4611686018427387904
    · have : decide (y ≤ 4611686018427387904) = false := by simp; omega
      simp [h1, h2, h3, this]
    by_cases h4 : y < -4611686018427387904
    · have : decide (-4611686018427387904 ≤ y) = false := by simp; omega
      simp [h1, h2, h3, h4, this]
    have e1 : decide (x ≤ 4611686018427387904) = true := by simp; omega
    have e2 : decide (-4611686018427387904 ≤ x) = true := by simp; omega
    have e3 : decide (y ≤ 4611686018427387904) = true := by simp; omega
    have e4 : decide (-4611686018427387904 ≤ y) = true := by simp; omega
    simp only [h1, h2, h3, h4, e1, e2, e3, e4, decide_false, cond_false, Bool.true_and, Bool.not_not, cond_true]
    by_cases h5 : x = 4611686018427387904 ∧ y = 4611686018427387904
    · simp [h5.1, h5.2]
    · rw [wrap_i64_id (by omega) (by omega)]
      have t : (x == 4611686018427387904 && y == 4611686018427387904) = false := by simp; omega
      by_cases h6 : x + y > 4611686018427387904
      · have e6 : decide (x + y ≤ 4611686018427387904) = false := by simp; omega
        simp only [h6, e6, Bool.false_and, decide_true, cond_true, cond_false]
        cases (x == 4611686018427387904) <;> cases (y == 4611686018427387904) <;> rfl
      · have e6 : decide (x + y ≤ 4611686018427387904) = true := by simp; omega
        by_cases h7 : x + y < -4611686018427387904
        · have e7 : decide (-4611686018427387904 ≤ x + y) = false := by simp; omega
          simp only [h6, h7, e6, e7, Bool.false_and, Bool.and_false, decide_true, decide_false, cond_true, cond_false]
          cases (x == 4611686018427387904) <;> cases (y == 4611686018427387904) <;> rfl
        · have e7 : decide (-4611686018427387904 ≤ x + y) = true := by simp; omega
          simp only [h6, h7, e6, e7, Bool.and_self, decide_true, decide_false, cond_true, cond_false]
          revert t
          cases (x == 4611686018427387904) <;> cases (y == 4611686018427387904) <;> simp
  · rfl
theorem half_range {x y : Int} (hx1 : -4611686018427387904 ≤ x) (hx2 : x ≤ 4611686018427387904) (hy1 : -4611686018427387904 ≤ y) (hy2 : y ≤ 4611686018427387904) :
    (x.tdiv 2 + y.tdiv 2 + (x.tmod 2 + y.tmod 2).tdiv 2 > 2305843009213693952 → x + y > 4611686018427387904) ∧ (x.tdiv 2 + y.tdiv 2 + (x.tmod 2 + y.tmod 2).tdiv 2 < -2305843009213693952 → x + y < -4611686018427387904) ∧
    (x + y = 9223372036854775808 → x.tdiv 2 + y.tdiv 2 + (x.tmod 2 + y.tmod 2).tdiv 2 > 2305843009213693952) := by
  have b1 := tdiv2 x
  have b2 := tdiv2 y
  have b3 := tmod2 x
  have b4 := tmod2 y
  have b5 := tdiv2 (x.tmod 2 + y.tmod 2)
  refine ⟨fun h => ?_, fun h => ?_, fun h => ?_⟩ <;> omega
theorem add125_is (x y : Int) (b : Bool) : fnSum Try.prog {gam := []} [] 20 125 [.ptr 0 0, .val (.int .i64 x), .val (.int .i64 y)] (row 27 b) = some (.val (.int .i64 (fadd b x y).1), row 27 (fadd b x y).2) := by
  rw [add125]
  unfold fadd num row
  by_cases h1 : x > 4611686018427387904
  · have : decide (x ≤ 4611686018427387904) = false := by simp; omega
    simp only [this, Bool.false_and, Bool.and_false, cond_false, Bool.cond_false_right, Bool.not_true]
    cases decide (x ≥ -4611686018427387904) <;> cases decide (y ≥ -4611686018427387904) <;> cases decide (y ≤ 4611686018427387904) <;> rfl
  by_cases h2 : x < -4611686018427387904
  · have e : decide (-4611686018427387904 ≤ x) = false := by simp; omega
    have e' : decide (x ≥ -4611686018427387904) = false := e
    simp only [e, e', Bool.false_and, Bool.and_false, cond_false]
    cases decide (y ≥ -4611686018427387904) <;> cases decide (y ≤ 4611686018427387904) <;> rfl
  have e1 : decide (x ≤ 4611686018427387904) = true := by simp; omega
  have e2 : decide (-4611686018427387904 ≤ x) = true := by simp; omega
  have e2' : decide (x ≥ -4611686018427387904) = true := e2
  by_cases h3 : y > 4611686018427387904
  · have : decide (y ≤ 4611686018427387904) = false := by simp; omega
    simp only [e1, e2, e2', this, Bool.false_and, Bool.and_false, cond_false, cond_true, Bool.not_true]
    cases decide (y ≥ -4611686018427387904) <;> rfl
  by_cases h4 : y < -4611686018427387904
  · have e : decide (-4611686018427387904 ≤ y) = false := by simp; omega
    have e' : decide (y ≥ -4611686018427387904) = false := e
    simp only [e1, e2, e2', e, e', Bool.false_and, Bool.and_false, cond_false, cond_true, Bool.not_true]
  have e3 : decide (y ≤ 4611686018427387904) = true := by simp; omega
  have e4 : decide (-4611686018427387904 ≤ y) = true := by simp; omega
  have e4' : decide (y ≥ -4611686018427387904) = true := e4
  simp only [e1, e2, e2', e3, e4, e4', Bool.true_and, cond_true, cond_false, Bool.not_true, Bool.not_not]
  cases b
  · rw [half_sum (by omega) (by omega) (by omega) (by omega)]
    obtain ⟨r1, r2, r3⟩ := half_range (x := x) (y := y) (by omega) (by omega) (by omega) (by omega)
    by_cases h5 : x + y > 4611686018427387904
    · have e5 : decide (x + y ≤ 4611686018427387904) = false := by simp; omega
      simp only [e5, Bool.false_and, Bool.and_false, cond_false]
      by_cases h6 : x.tdiv 2 + y.tdiv 2 + (x.tmod 2 + y.tmod 2).tdiv 2 > 2305843009213693952
      · simp only [h6, decide_true, cond_true]
      · by_cases h7 : x.tdiv 2 + y.tdiv 2 + (x.tmod 2 + y.tmod 2).tdiv 2 < -2305843009213693952
        · simp only [h6, h7, decide_true, decide_false, cond_true, cond_false]
        · have e8 : IntKind.i64.wrap (x + y) = x + y := wrap_i64_id (by omega) (by omega)
          rw [e8]
          simp only [h6, h7, e5, decide_false, cond_false, Bool.not_false, cond_true]
          cases decide (x + y ≥ -4611686018427387904) <;> rfl
    · have e5 : decide (x + y ≤ 4611686018427387904) = true := by simp; omega
      have h6 : ¬ (x.tdiv 2 + y.tdiv 2 + (x.tmod 2 + y.tmod 2).tdiv 2 > 2305843009213693952) := fun h => h5 (r1 h)
      have e8 : IntKind.i64.wrap (x + y) = x + y := wrap_i64_id (by omega) (by omega)
      rw [e8]
      by_cases h7 : x + y < -4611686018427387904
      · have e7 : decide (-4611686018427387904 ≤ x + y) = false := by simp; omega
        have e7' : decide (x + y ≥ -4611686018427387904) = false := e7
        simp only [h6, e5, e7, e7', decide_false, cond_false, Bool.false_and, Bool.and_false]
        cases decide (x.tdiv 2 + y.tdiv 2 + (x.tmod 2 + y.tmod 2).tdiv 2 < -2305843009213693952) <;> rfl
      · have e7 : decide (-4611686018427387904 ≤ x + y) = true := by simp; omega
        have e7' : decide (x + y ≥ -4611686018427387904) = true := e7
        have h9 : ¬ (x.tdiv 2 + y.tdiv 2 + (x.tmod 2 + y.tmod 2).tdiv 2 < -2305843009213693952) := fun h => h7 (r2 h)
        simp only [h6, h9, e5, e7, e7', decide_false, cond_false, cond_true, Bool.not_true, Bool.and_self, Bool.not_false]
  · rfl
theorem fsub_add (b : Bool) (x y : Int) (hx1 : -4611686018427387904 ≤ x) (hx2 : x ≤ 4611686018427387904) (hy1 : -4611686018427387904 ≤ y) (hy2 : y ≤ 4611686018427387904) : fadd b x (IntKind.i64.wrap (0 - y)) = fsub b x y := by
  rw [wrap_i64_id (by omega) (by omega)]
  unfold fadd fsub
  have : num (0 - y) = num y := by
    have h1 : num y = true := num_iff.2 ⟨hy1, hy2⟩
    rw [h1]
    exact num_iff.2 (by omega)
  rw [this, show x + (0 - y) = x - y by omega]
theorem sub127_is (x y : Int) (b : Bool) : fnSum Try.prog {gam := [(124, S 25 (op2 fadd))]} [] 20 127 [.ptr 0 0, .val (.int .i64 x), .val (.int .i64 y)] (row 25 b) = some (.val (.int .i64 (fsub b x y).1), row 25 (fsub b x y).2) := by
  rw [sub127]
  cases b
  · by_cases h1 : x > 4611686018427387904
    · have : num x = false := by simp [num]; omega
      simp [h1, fsub, this, row]
    by_cases h2 : x < -4611686018427387904
    · have : num x = false := by simp [num]; omega
      simp [h1, h2, fsub, this, row]
    by_cases h3 : y > 4611686018427387904
    · have : num y = false := by simp [num]; omega
      simp [h1, h2, h3, fsub, this, row]
    by_cases h4 : y < -4611686018427387904
    · have : num y = false := by simp [num]; omega
      simp [h1, h2, h3, h4, fsub, this, row]
    simp only [h1, h2, h3, h4, decide_false, cond_false, Bool.not_not, op2, row]
    rw [fsub_add false x y (by omega) (by omega) (by omega) (by omega)]
  · rfl
theorem sub128_is (x y : Int) (b : Bool) : fnSum Try.prog {gam := [(125, S 27 (op2 fadd))]} [] 20 128 [.ptr 0 0, .val (.int .i64 x), .val (.int .i64 y)] (row 27 b) = some (.val (.int .i64 (fsub b x y).1), row 27 (fsub b x y).2) := by
  rw [sub128]
  by_cases h1 : x > 4611686018427387904
  · have : num x = false := by simp [num]; omega
    have e : decide (x ≤ 4611686018427387904) = false := by simp; omega
    simp only [e, fsub, this, Bool.false_and, Bool.and_false, cond_false, Bool.not_true, row]
    cases decide (x ≥ -4611686018427387904) <;> cases decide (y ≥ -4611686018427387904) <;> cases decide (y ≤ 4611686018427387904) <;> rfl
  by_cases h2 : x < -4611686018427387904
  · have : num x = false := by simp [num]; omega
    have e : decide (x ≥ -4611686018427387904) = false := by simp; omega
    simp only [e, fsub, this, Bool.false_and, Bool.and_false, cond_false, row]
    cases decide (y ≥ -4611686018427387904) <;> cases decide (y ≤ 4611686018427387904) <;> rfl
  have e1 : decide (x ≤ 4611686018427387904) = true := by simp; omega
  have e2 : decide (x ≥ -4611686018427387904) = true := by simp; omega
  by_cases h3 : y > 4611686018427387904
  · have : num y = false := by simp [num]; omega
    have e : decide (y ≤ 4611686018427387904) = false := by simp; omega
    simp only [e1, e2, e, fsub, this, Bool.false_and, Bool.and_false, cond_false, cond_true, Bool.not_true, row]
    cases decide (y ≥ -4611686018427387904) <;> rfl
  by_cases h4 : y < -4611686018427387904
  · have : num y = false := by simp [num]; omega
    have e : decide (y ≥ -4611686018427387904) = false := by simp; omega
    simp only [e1, e2, e, fsub, this, Bool.false_and, Bool.and_false, cond_false, cond_true, Bool.not_true, row]
  have e3 : decide (y ≤ 4611686018427387904) = true := by simp; omega
  have e4 : decide (y ≥ -4611686018427387904) = true := by simp; omega
  simp only [e1, e2, e3, e4, cond_true, cond_false, Bool.not_true, Bool.not_not, op2, row]
  rw [fsub_add b x y (by omega) (by omega) (by omega) (by omega)]
  cases b <;> rfl

theorem ok124 : SumOk Try.prog 124 (S 25 (op2 fadd)) := S_ok (E := { gam := [] }) GamOk.nil 20 fun b a => add124_is a.1 a.2.1 b
theorem ok125 : SumOk Try.prog 125 (S 27 (op2 fadd)) := S_ok (E := { gam := [] }) GamOk.nil 20 fun b a => add125_is a.1 a.2.1 b
theorem ok127 : SumOk Try.prog 127 (S 25 (op2 fsub)) := S_ok (E := { gam := [(124, S 25 (op2 fadd))] }) (.cons ok124 .nil) 20 fun b a => sub127_is a.1 a.2.1 b
theorem ok128 : SumOk Try.prog 128 (S 27 (op2 fsub)) := S_ok (E := { gam := [(125, S 27 (op2 fadd))] }) (.cons ok125 .nil) 20 fun b a => sub128_is a.1 a.2.1 b
end Go.Ab
