/- A part of the proof of 'TriadFirst': lemmas, no statement of their own; no condition. -/
import Derived.Test.YtgccejhdohpojaaTrAll
/- The attitude of two pairs is the document's. -/
namespace Go.Ab
open Go Go.Proofs
theorem fratio_num {a b c v : Int} (h : fratio false a b c = (v, false)) : num v = true := by
  unfold fratio at h
  generalize hc : (iabs c == 0 || decide (iabs a * iabs b / iabs c > 4611686018427387904) || decide (rnd (iabs a * iabs b) (iabs c) > 4611686018427387904)) = t at h
  cases t with
  | true => simp at h
  | false =>
    simp only [Bool.or_eq_false_iff, decide_eq_false_iff_not, beq_eq_false_iff_ne] at hc
    obtain ⟨⟨h1, h2⟩, h3⟩ := hc
    have c0 := iabs_nonneg c
    have n0 : 0 ≤ iabs a * iabs b := Int.mul_nonneg (iabs_nonneg a) (iabs_nonneg b)
    have r0 := rnd_nonneg n0 (z := iabs c) (by omega)
    rw [cond_false, Prod.mk.injEq] at h
    rw [num_iff, ← h.1]
    cases neg3 a b c <;> simp only [cond_true, cond_false] <;> omega
theorem fmul_num {a b v : Int} (h : fmul false a b = (v, false)) : num v = true := by
  unfold fmul at h
  cases hb : (false || !nums? [a, b]) with
  | true => rw [hb] at h; simp at h
  | false => rw [hb] at h; exact fratio_num h
theorem fadd_zero {v : Int} (h : num v = true) : fadd false 0 v = (v, false) := by
  unfold fadd
  have e : (0 : Int) + v = v := Int.zero_add v
  rw [e, h]
  rfl
theorem ent_eq (f : Bool) (x y : V3) : entP opsF f x y = entR opsF f x y := by
  unfold entP entR
  have ha : ∀ u v, fadd true u v = (0, true) := fun _ _ => rfl
  have hm : ∀ u v, fmul true u v = (0, true) := fun _ _ => rfl
  simp only [opsF]
  cases f
  · rcases h1 : fmul false x.x y.x with ⟨m, f1⟩
    cases f1
    · rw [fadd_zero (fmul_num h1)]
      rcases h2 : fmul false x.y y.y with ⟨n, f2⟩
      cases f2
      · rcases h3 : fmul false x.z y.z with ⟨k, f3⟩
        rcases h4 : fadd false m n with ⟨s, f4⟩
        cases f3 <;> cases f4 <;> simp [ha, hm, h3, h4]
      · simp [ha, hm]
    · simp [ha, hm]
  · simp [ha, hm]
def attitude (b : Bool) (p : P2 × P2 × Unit) : V4 × Bool :=
  let a := apart (vparts vopsF) b (p.1.a, p.1.b, ()); let c := apart (vparts vopsF) a.2 (p.2.1.a, p.2.1.b, ())
  bif !a.1 then (V4.zero, true) else bif !c.1 then (V4.zero, true) else attRest (entP opsF) (frame vopsF) (fromMat opsF (qunit opsF)) p.1 p.2.1 c.2
theorem bif_sayR {ω : Type} [Cod ω] {e : TypeId} {c : Bool} {x y : ω × Bool} : (bif c then sayR e x else sayR e y) = sayR e (bif c then x else y) := by cases c <;> rfl
theorem ok98 : SumOk Try.prog 98 (S 25 attitude) := by
  refine S_ok (E := { gam := (96, S 25 (apart (vparts vopsF))) :: (150, S 25 (frame vopsF)) :: (100, S 25 (fromMat opsF (qunit opsF))) :: gamN opsF }) (.cons ok96 (.cons ok150 (.cons ok100 gamN_ok))) 20 fun b a => ?_
  refine (att98 opsF (apart (vparts vopsF)) (frame vopsF) (fromMat opsF (qunit opsF)) b a.1 a.2.1).trans ?_
  dsimp only
  rw [bif_sayR, bif_sayR]
  rfl
theorem ok99 : SumOk Try.prog 99 (S 27 attitude) := by
  refine S_ok (E := { gam := (97, S 27 (apart (vparts vopsF))) :: (151, S 27 (frame vopsF)) :: (152, S 27 (fromMat opsF (qunit opsF))) :: gamN opsF }) (.cons ok97 (.cons ok151 (.cons ok152 gamN_ok))) 20 fun b a => ?_
  refine (att99 opsF (apart (vparts vopsF)) (frame vopsF) (fromMat opsF (qunit opsF)) b a.1 a.2.1).trans ?_
  dsimp only
  rw [bif_sayR, bif_sayR, show entR opsF = entP opsF from funext fun f => funext fun x => funext fun y => (ent_eq f x y).symm]
  rfl
theorem attSelf : attitude false (⟨⟨1099511627776, 0, 0⟩, ⟨0, 1099511627776, 0⟩⟩, ⟨⟨1099511627776, 0, 0⟩, ⟨0, 1099511627776, 0⟩⟩, ()) = (⟨0, 0, 0, 1099511627776⟩, false) := by kernel_rfl
theorem apartSelf : apart (vparts vopsF) false (⟨1099511627776, 0, 0⟩, ⟨0, 1099511627776, 0⟩, ()) = (true, false) := by kernel_rfl
theorem ok95 : SumOk Try.prog 95 (S0 fun (_ : Unit) => true) := S0_ok (E := { gam := [(98, S 25 attitude), (96, S 25 (apart (vparts vopsF)))] }) (.cons ok98 (.cons ok96 .nil)) 50 fun _ => by
  refine (awake95 attitude (apart (vparts vopsF))).trans ?_
  dsimp only
  rw [attSelf]
  dsimp only
  rw [apartSelf]
  rfl
theorem law28 (p : Bool → V3 × V3 × Unit → Bool × Bool) (b : Bool) (x0 x1 x2 y0 y1 y2 : Int) :
    fnSum Try.prog { gam := [(95, S0 fun (_ : Unit) => true), (96, S 25 p), (97, S 27 p)] } [] 20 28 (List.map AV.val [.agg #[.int .i64 x0, .int .i64 x1, .int .i64 x2], .agg #[.int .i64 y0, .int .i64 y1, .int .i64 y2], .bool b]) [] =
      let r := p b (⟨x0, x1, x2⟩, ⟨y0, y1, y2⟩, ())
      bif r.1 == r.1 then say (r.2 == r.2) else sayF := by kernel_rfl
theorem law29 (p : Bool → P2 × P2 × Unit → V4 × Bool) (b : Bool) (x0 x1 x2 y0 y1 y2 u0 u1 u2 v0 v1 v2 : Int) :
    fnSum Try.prog { gam := [(95, S0 fun (_ : Unit) => true), (98, S 25 p), (99, S 27 p)] } [] 20 29 (List.map AV.val [.agg #[.int .i64 x0, .int .i64 x1, .int .i64 x2, .int .i64 y0, .int .i64 y1, .int .i64 y2], .agg #[.int .i64 u0, .int .i64 u1, .int .i64 u2, .int .i64 v0, .int .i64 v1, .int .i64 v2], .bool b]) [] =
      let r := p b (⟨⟨x0, x1, x2⟩, ⟨y0, y1, y2⟩⟩, ⟨⟨u0, u1, u2⟩, ⟨v0, v1, v2⟩⟩, ())
      bif v4b r.1 r.1 then say (r.2 == r.2) else sayF := by kernel_rfl
theorem TriadApart_calls (x0 x1 x2 y0 y1 y2 : Int) (b : Bool) (w : World) :
    Calls Try.prog 28 #[.agg #[.int .i64 x0, .int .i64 x1, .int .i64 x2], .agg #[.int .i64 y0, .int .i64 y1, .int .i64 y2], .bool b] w fun e w' => e = .returned (.bool true) ∧ RowKit.Below w.heap.size w w' := by
  have hG : GamOk Try.prog [(95, S0 fun (_ : Unit) => true), (96, S 25 (apart (vparts vopsF))), (97, S 27 (apart (vparts vopsF)))] := .cons ok95 (.cons ok96 (.cons ok97 .nil))
  refine calls_of_sum (E := { gam := [(95, S0 fun (_ : Unit) => true), (96, S 25 (apart (vparts vopsF))), (97, S 27 (apart (vparts vopsF)))] }) hG (d := 20) (f := 28) (vals := [.agg #[.int .i64 x0, .int .i64 x1, .int .i64 x2], .agg #[.int .i64 y0, .int .i64 y1, .int .i64 y2], .bool b]) ?_ w
  rw [law28]
  simp [say]
theorem TriadAttitude_calls (x0 x1 x2 y0 y1 y2 u0 u1 u2 v0 v1 v2 : Int) (b : Bool) (w : World) :
    Calls Try.prog 29 #[.agg #[.int .i64 x0, .int .i64 x1, .int .i64 x2, .int .i64 y0, .int .i64 y1, .int .i64 y2], .agg #[.int .i64 u0, .int .i64 u1, .int .i64 u2, .int .i64 v0, .int .i64 v1, .int .i64 v2], .bool b] w fun e w' => e = .returned (.bool true) ∧ RowKit.Below w.heap.size w w' := by
  have hG : GamOk Try.prog [(95, S0 fun (_ : Unit) => true), (98, S 25 attitude), (99, S 27 attitude)] := .cons ok95 (.cons ok98 (.cons ok99 .nil))
  refine calls_of_sum (E := { gam := [(95, S0 fun (_ : Unit) => true), (98, S 25 attitude), (99, S 27 attitude)] }) hG (d := 20) (f := 29) (vals := [.agg #[.int .i64 x0, .int .i64 x1, .int .i64 x2, .int .i64 y0, .int .i64 y1, .int .i64 y2], .agg #[.int .i64 u0, .int .i64 u1, .int .i64 u2, .int .i64 v0, .int .i64 v1, .int .i64 v2], .bool b]) ?_ w
  rw [law29]
  simp [v4b_self, say]
end Go.Ab
