/- A part of the proof of 'FilterPoints': lemmas, no statement of their own; no condition. -/
import Derived.Test.YtccgjhdpiaglaaaGFkS
/- FilterMoves: what a guess is behind a move is the document's. -/
namespace Go.Ab
open Go Go.Proofs
def eqJ : List Int → List Int → Bool
  | a :: r, b :: t => a == b && eqJ r t
  | _, _ => true
theorem eqJ_self : ∀ l : List Int, eqJ l l = true
  | [] => rfl
  | a :: r => by simp [eqJ, eqJ_self r]
def R6.js (r : R6) : List Int := [r.a, r.b, r.c, r.d, r.e, r.f]
def gsJ (a b : Gs) : Bool := eqJ [a.q.w, a.q.x, a.q.y, a.q.z] [b.q.w, b.q.x, b.q.y, b.q.z] && (eqJ [a.bias.x, a.bias.y, a.bias.z] [b.bias.x, b.bias.y, b.bias.z] &&
  ((eqJ a.p.a.js b.p.a.js && (eqJ a.p.b.js b.p.b.js && (eqJ a.p.c.js b.p.c.js && (eqJ a.p.d.js b.p.d.js && (eqJ a.p.e.js b.p.e.js && (eqJ a.p.f.js b.p.f.js && true)))))) && true))
theorem gsJ_self (a : Gs) : gsJ a a = true := by simp [gsJ, eqJ_self]
theorem lawM (mv : Bool → Gs × V3 × Int × Unit → Gs × Bool) (a0 a1 a2 a3 a4 a5 a6 a7 a8 a9 a10 a11 a12 a13 a14 a15 a16 a17 a18 a19 a20 a21 a22 a23 a24 a25 a26 a27 a28 a29 a30 a31 a32 a33 a34 a35 a36 a37 a38 a39 a40 a41 a42 s0 s1 s2 ms : Int) : fnSum Try.prog { gam := [(44, S0 fun (_ : Unit) => true), (51, S 25 mv), (52, S 27 mv)] } [] 20 11 (List.map AV.val [.agg #[.int .i64 a0, .int .i64 a1, .int .i64 a2, .int .i64 a3, .int .i64 a4, .int .i64 a5, .int .i64 a6, .int .i64 a7, .int .i64 a8, .int .i64 a9, .int .i64 a10, .int .i64 a11, .int .i64 a12, .int .i64 a13, .int .i64 a14, .int .i64 a15, .int .i64 a16, .int .i64 a17, .int .i64 a18, .int .i64 a19, .int .i64 a20, .int .i64 a21, .int .i64 a22, .int .i64 a23, .int .i64 a24, .int .i64 a25, .int .i64 a26, .int .i64 a27, .int .i64 a28, .int .i64 a29, .int .i64 a30, .int .i64 a31, .int .i64 a32, .int .i64 a33, .int .i64 a34, .int .i64 a35, .int .i64 a36, .int .i64 a37, .int .i64 a38, .int .i64 a39, .int .i64 a40, .int .i64 a41, .int .i64 a42], .agg #[.int .i64 s0, .int .i64 s1, .int .i64 s2], .int .i64 ms]) [] =
    bif gsJ (mv false (⟨⟨a0, a1, a2, a3⟩, ⟨a4, a5, a6⟩, ⟨⟨a7, a8, a9, a10, a11, a12⟩, ⟨a13, a14, a15, a16, a17, a18⟩, ⟨a19, a20, a21, a22, a23, a24⟩, ⟨a25, a26, a27, a28, a29, a30⟩, ⟨a31, a32, a33, a34, a35, a36⟩, ⟨a37, a38, a39, a40, a41, a42⟩⟩⟩, ⟨s0, s1, s2⟩, ms, ())).1 (mv false (⟨⟨a0, a1, a2, a3⟩, ⟨a4, a5, a6⟩, ⟨⟨a7, a8, a9, a10, a11, a12⟩, ⟨a13, a14, a15, a16, a17, a18⟩, ⟨a19, a20, a21, a22, a23, a24⟩, ⟨a25, a26, a27, a28, a29, a30⟩, ⟨a31, a32, a33, a34, a35, a36⟩, ⟨a37, a38, a39, a40, a41, a42⟩⟩⟩, ⟨s0, s1, s2⟩, ms, ())).1 then some (.val (.bool ((mv false (⟨⟨a0, a1, a2, a3⟩, ⟨a4, a5, a6⟩, ⟨⟨a7, a8, a9, a10, a11, a12⟩, ⟨a13, a14, a15, a16, a17, a18⟩, ⟨a19, a20, a21, a22, a23, a24⟩, ⟨a25, a26, a27, a28, a29, a30⟩, ⟨a31, a32, a33, a34, a35, a36⟩, ⟨a37, a38, a39, a40, a41, a42⟩⟩⟩, ⟨s0, s1, s2⟩, ms, ())).2 == (mv false (⟨⟨a0, a1, a2, a3⟩, ⟨a4, a5, a6⟩, ⟨⟨a7, a8, a9, a10, a11, a12⟩, ⟨a13, a14, a15, a16, a17, a18⟩, ⟨a19, a20, a21, a22, a23, a24⟩, ⟨a25, a26, a27, a28, a29, a30⟩, ⟨a31, a32, a33, a34, a35, a36⟩, ⟨a37, a38, a39, a40, a41, a42⟩⟩⟩, ⟨s0, s1, s2⟩, ms, ())).2)), []) else some (.val (.bool false), []) := by kernel_rfl
theorem lawM_true (mv : Bool → Gs × V3 × Int × Unit → Gs × Bool) (a0 a1 a2 a3 a4 a5 a6 a7 a8 a9 a10 a11 a12 a13 a14 a15 a16 a17 a18 a19 a20 a21 a22 a23 a24 a25 a26 a27 a28 a29 a30 a31 a32 a33 a34 a35 a36 a37 a38 a39 a40 a41 a42 s0 s1 s2 ms : Int) : fnSum Try.prog { gam := [(44, S0 fun (_ : Unit) => true), (51, S 25 mv), (52, S 27 mv)] } [] 20 11 (List.map AV.val [.agg #[.int .i64 a0, .int .i64 a1, .int .i64 a2, .int .i64 a3, .int .i64 a4, .int .i64 a5, .int .i64 a6, .int .i64 a7, .int .i64 a8, .int .i64 a9, .int .i64 a10, .int .i64 a11, .int .i64 a12, .int .i64 a13, .int .i64 a14, .int .i64 a15, .int .i64 a16, .int .i64 a17, .int .i64 a18, .int .i64 a19, .int .i64 a20, .int .i64 a21, .int .i64 a22, .int .i64 a23, .int .i64 a24, .int .i64 a25, .int .i64 a26, .int .i64 a27, .int .i64 a28, .int .i64 a29, .int .i64 a30, .int .i64 a31, .int .i64 a32, .int .i64 a33, .int .i64 a34, .int .i64 a35, .int .i64 a36, .int .i64 a37, .int .i64 a38, .int .i64 a39, .int .i64 a40, .int .i64 a41, .int .i64 a42], .agg #[.int .i64 s0, .int .i64 s1, .int .i64 s2], .int .i64 ms]) [] = some (.val (.bool true), []) := by
  rw [lawM, gsJ_self, cond_true, BEq.rfl]
theorem moveR_is : rmoveO RP = moveV := by
  funext b a
  obtain ⟨g, rate, ms, u⟩ := a
  exact (move_eq b g rate ms).symm
theorem okMoveW : SumOk Try.prog 52 (S 27 moveV) := by
  have h := okMoveR
  rw [moveR_is] at h
  exact h
set_option maxRecDepth 8000 in
theorem FilterMoves_calls (a0 a1 a2 a3 a4 a5 a6 a7 a8 a9 a10 a11 a12 a13 a14 a15 a16 a17 a18 a19 a20 a21 a22 a23 a24 a25 a26 a27 a28 a29 a30 a31 a32 a33 a34 a35 a36 a37 a38 a39 a40 a41 a42 s0 s1 s2 ms : Int) (w : World) : Calls Try.prog 11 #[.agg #[.int .i64 a0, .int .i64 a1, .int .i64 a2, .int .i64 a3, .int .i64 a4, .int .i64 a5, .int .i64 a6, .int .i64 a7, .int .i64 a8, .int .i64 a9, .int .i64 a10, .int .i64 a11, .int .i64 a12, .int .i64 a13, .int .i64 a14, .int .i64 a15, .int .i64 a16, .int .i64 a17, .int .i64 a18, .int .i64 a19, .int .i64 a20, .int .i64 a21, .int .i64 a22, .int .i64 a23, .int .i64 a24, .int .i64 a25, .int .i64 a26, .int .i64 a27, .int .i64 a28, .int .i64 a29, .int .i64 a30, .int .i64 a31, .int .i64 a32, .int .i64 a33, .int .i64 a34, .int .i64 a35, .int .i64 a36, .int .i64 a37, .int .i64 a38, .int .i64 a39, .int .i64 a40, .int .i64 a41, .int .i64 a42], .agg #[.int .i64 s0, .int .i64 s1, .int .i64 s2], .int .i64 ms] w fun e w' => e = .returned (.bool true) ∧ RowKit.Below w.heap.size w w' :=
  calls_of_sum (E := { gam := [(44, S0 fun (_ : Unit) => true), (51, S 25 moveV), (52, S 27 moveV)] }) (.cons okAwake (.cons okMoveV (.cons okMoveW .nil))) (lawM_true moveV a0 a1 a2 a3 a4 a5 a6 a7 a8 a9 a10 a11 a12 a13 a14 a15 a16 a17 a18 a19 a20 a21 a22 a23 a24 a25 a26 a27 a28 a29 a30 a31 a32 a33 a34 a35 a36 a37 a38 a39 a40 a41 a42 s0 s1 s2 ms) w
end Go.Ab
