/- A part of the proof of 'FilterPoints': lemmas, no statement of their own; no condition. -/
import Derived.Test.YtccgjhdpiaglaaaGFjD
/- The document's products of two columns. -/
namespace Go.Ab
open Go Go.Proofs
/-- Thirteen numbers, one behind the other, each of the flow behind the one before. -/
def mulN (o : Ops) (u v : Nat → Int) : Nat → Nat → (Nat → Int) × Bool → (Nat → Int) × Bool
  | _, 0, s => s
  | k, n + 1, s => mulN o u v (k + 1) n (setR s.1 k (o.mul s.2 (u k) (v k)).1, (o.mul s.2 (u k) (v k)).2)
def pcol (v : Nat → Int) : X13 := x13of fun k j => bif Nat.beq j 0 then v k else 0
abbrev PrFun := Bool → X13 × Int × X13 × Int × Unit → Int × Bool
def prV (o : Ops) (mn : MFun) : PrFun := fun b p =>
  let s := mulN o (col p.1 p.2.1) (col p.2.2.1 p.2.2.2.1) 0 13 (fun _ => 0, b)
  mn s.2 (pcol s.1, 0, ())
def preP (p : X13 × Int × X13 × Int × Unit) : Bool := ix6 p.2.1 && ix6 p.2.2.2.1
section
variable (o : Ops) (mn : MFun) (b : Bool) (x y : X13)
theorem prod75_00 : fnSum Try.prog { gam := (118, Sc 27 preM mn) :: gamN o } [] 20 120 [.ptr 0 0, .val (Cod.enc x), .val (.int .i64 0), .val (Cod.enc y), .val (.int .i64 0)] (row 27 b) = some (.val (Cod.enc (prV o mn b (x, 0, y, 0, ())).1), row 27 (prV o mn b (x, 0, y, 0, ())).2) := by kernel_rfl
theorem prod75_01 : fnSum Try.prog { gam := (118, Sc 27 preM mn) :: gamN o } [] 20 120 [.ptr 0 0, .val (Cod.enc x), .val (.int .i64 0), .val (Cod.enc y), .val (.int .i64 1)] (row 27 b) = some (.val (Cod.enc (prV o mn b (x, 0, y, 1, ())).1), row 27 (prV o mn b (x, 0, y, 1, ())).2) := by kernel_rfl
theorem prod75_02 : fnSum Try.prog { gam := (118, Sc 27 preM mn) :: gamN o } [] 20 120 [.ptr 0 0, .val (Cod.enc x), .val (.int .i64 0), .val (Cod.enc y), .val (.int .i64 2)] (row 27 b) = some (.val (Cod.enc (prV o mn b (x, 0, y, 2, ())).1), row 27 (prV o mn b (x, 0, y, 2, ())).2) := by kernel_rfl
theorem prod75_03 : fnSum Try.prog { gam := (118, Sc 27 preM mn) :: gamN o } [] 20 120 [.ptr 0 0, .val (Cod.enc x), .val (.int .i64 0), .val (Cod.enc y), .val (.int .i64 3)] (row 27 b) = some (.val (Cod.enc (prV o mn b (x, 0, y, 3, ())).1), row 27 (prV o mn b (x, 0, y, 3, ())).2) := by kernel_rfl
theorem prod75_04 : fnSum Try.prog { gam := (118, Sc 27 preM mn) :: gamN o } [] 20 120 [.ptr 0 0, .val (Cod.enc x), .val (.int .i64 0), .val (Cod.enc y), .val (.int .i64 4)] (row 27 b) = some (.val (Cod.enc (prV o mn b (x, 0, y, 4, ())).1), row 27 (prV o mn b (x, 0, y, 4, ())).2) := by kernel_rfl
theorem prod75_05 : fnSum Try.prog { gam := (118, Sc 27 preM mn) :: gamN o } [] 20 120 [.ptr 0 0, .val (Cod.enc x), .val (.int .i64 0), .val (Cod.enc y), .val (.int .i64 5)] (row 27 b) = some (.val (Cod.enc (prV o mn b (x, 0, y, 5, ())).1), row 27 (prV o mn b (x, 0, y, 5, ())).2) := by kernel_rfl
theorem prod75_10 : fnSum Try.prog { gam := (118, Sc 27 preM mn) :: gamN o } [] 20 120 [.ptr 0 0, .val (Cod.enc x), .val (.int .i64 1), .val (Cod.enc y), .val (.int .i64 0)] (row 27 b) = some (.val (Cod.enc (prV o mn b (x, 1, y, 0, ())).1), row 27 (prV o mn b (x, 1, y, 0, ())).2) := by kernel_rfl
theorem prod75_11 : fnSum Try.prog { gam := (118, Sc 27 preM mn) :: gamN o } [] 20 120 [.ptr 0 0, .val (Cod.enc x), .val (.int .i64 1), .val (Cod.enc y), .val (.int .i64 1)] (row 27 b) = some (.val (Cod.enc (prV o mn b (x, 1, y, 1, ())).1), row 27 (prV o mn b (x, 1, y, 1, ())).2) := by kernel_rfl
theorem prod75_12 : fnSum Try.prog { gam := (118, Sc 27 preM mn) :: gamN o } [] 20 120 [.ptr 0 0, .val (Cod.enc x), .val (.int .i64 1), .val (Cod.enc y), .val (.int .i64 2)] (row 27 b) = some (.val (Cod.enc (prV o mn b (x, 1, y, 2, ())).1), row 27 (prV o mn b (x, 1, y, 2, ())).2) := by kernel_rfl
theorem prod75_13 : fnSum Try.prog { gam := (118, Sc 27 preM mn) :: gamN o } [] 20 120 [.ptr 0 0, .val (Cod.enc x), .val (.int .i64 1), .val (Cod.enc y), .val (.int .i64 3)] (row 27 b) = some (.val (Cod.enc (prV o mn b (x, 1, y, 3, ())).1), row 27 (prV o mn b (x, 1, y, 3, ())).2) := by kernel_rfl
theorem prod75_14 : fnSum Try.prog { gam := (118, Sc 27 preM mn) :: gamN o } [] 20 120 [.ptr 0 0, .val (Cod.enc x), .val (.int .i64 1), .val (Cod.enc y), .val (.int .i64 4)] (row 27 b) = some (.val (Cod.enc (prV o mn b (x, 1, y, 4, ())).1), row 27 (prV o mn b (x, 1, y, 4, ())).2) := by kernel_rfl
theorem prod75_15 : fnSum Try.prog { gam := (118, Sc 27 preM mn) :: gamN o } [] 20 120 [.ptr 0 0, .val (Cod.enc x), .val (.int .i64 1), .val (Cod.enc y), .val (.int .i64 5)] (row 27 b) = some (.val (Cod.enc (prV o mn b (x, 1, y, 5, ())).1), row 27 (prV o mn b (x, 1, y, 5, ())).2) := by kernel_rfl
theorem prod75_20 : fnSum Try.prog { gam := (118, Sc 27 preM mn) :: gamN o } [] 20 120 [.ptr 0 0, .val (Cod.enc x), .val (.int .i64 2), .val (Cod.enc y), .val (.int .i64 0)] (row 27 b) = some (.val (Cod.enc (prV o mn b (x, 2, y, 0, ())).1), row 27 (prV o mn b (x, 2, y, 0, ())).2) := by kernel_rfl
theorem prod75_21 : fnSum Try.prog { gam := (118, Sc 27 preM mn) :: gamN o } [] 20 120 [.ptr 0 0, .val (Cod.enc x), .val (.int .i64 2), .val (Cod.enc y), .val (.int .i64 1)] (row 27 b) = some (.val (Cod.enc (prV o mn b (x, 2, y, 1, ())).1), row 27 (prV o mn b (x, 2, y, 1, ())).2) := by kernel_rfl
theorem prod75_22 : fnSum Try.prog { gam := (118, Sc 27 preM mn) :: gamN o } [] 20 120 [.ptr 0 0, .val (Cod.enc x), .val (.int .i64 2), .val (Cod.enc y), .val (.int .i64 2)] (row 27 b) = some (.val (Cod.enc (prV o mn b (x, 2, y, 2, ())).1), row 27 (prV o mn b (x, 2, y, 2, ())).2) := by kernel_rfl
theorem prod75_23 : fnSum Try.prog { gam := (118, Sc 27 preM mn) :: gamN o } [] 20 120 [.ptr 0 0, .val (Cod.enc x), .val (.int .i64 2), .val (Cod.enc y), .val (.int .i64 3)] (row 27 b) = some (.val (Cod.enc (prV o mn b (x, 2, y, 3, ())).1), row 27 (prV o mn b (x, 2, y, 3, ())).2) := by kernel_rfl
theorem prod75_24 : fnSum Try.prog { gam := (118, Sc 27 preM mn) :: gamN o } [] 20 120 [.ptr 0 0, .val (Cod.enc x), .val (.int .i64 2), .val (Cod.enc y), .val (.int .i64 4)] (row 27 b) = some (.val (Cod.enc (prV o mn b (x, 2, y, 4, ())).1), row 27 (prV o mn b (x, 2, y, 4, ())).2) := by kernel_rfl
theorem prod75_25 : fnSum Try.prog { gam := (118, Sc 27 preM mn) :: gamN o } [] 20 120 [.ptr 0 0, .val (Cod.enc x), .val (.int .i64 2), .val (Cod.enc y), .val (.int .i64 5)] (row 27 b) = some (.val (Cod.enc (prV o mn b (x, 2, y, 5, ())).1), row 27 (prV o mn b (x, 2, y, 5, ())).2) := by kernel_rfl
theorem prod75_30 : fnSum Try.prog { gam := (118, Sc 27 preM mn) :: gamN o } [] 20 120 [.ptr 0 0, .val (Cod.enc x), .val (.int .i64 3), .val (Cod.enc y), .val (.int .i64 0)] (row 27 b) = some (.val (Cod.enc (prV o mn b (x, 3, y, 0, ())).1), row 27 (prV o mn b (x, 3, y, 0, ())).2) := by kernel_rfl
theorem prod75_31 : fnSum Try.prog { gam := (118, Sc 27 preM mn) :: gamN o } [] 20 120 [.ptr 0 0, .val (Cod.enc x), .val (.int .i64 3), .val (Cod.enc y), .val (.int .i64 1)] (row 27 b) = some (.val (Cod.enc (prV o mn b (x, 3, y, 1, ())).1), row 27 (prV o mn b (x, 3, y, 1, ())).2) := by kernel_rfl
theorem prod75_32 : fnSum Try.prog { gam := (118, Sc 27 preM mn) :: gamN o } [] 20 120 [.ptr 0 0, .val (Cod.enc x), .val (.int .i64 3), .val (Cod.enc y), .val (.int .i64 2)] (row 27 b) = some (.val (Cod.enc (prV o mn b (x, 3, y, 2, ())).1), row 27 (prV o mn b (x, 3, y, 2, ())).2) := by kernel_rfl
theorem prod75_33 : fnSum Try.prog { gam := (118, Sc 27 preM mn) :: gamN o } [] 20 120 [.ptr 0 0, .val (Cod.enc x), .val (.int .i64 3), .val (Cod.enc y), .val (.int .i64 3)] (row 27 b) = some (.val (Cod.enc (prV o mn b (x, 3, y, 3, ())).1), row 27 (prV o mn b (x, 3, y, 3, ())).2) := by kernel_rfl
theorem prod75_34 : fnSum Try.prog { gam := (118, Sc 27 preM mn) :: gamN o } [] 20 120 [.ptr 0 0, .val (Cod.enc x), .val (.int .i64 3), .val (Cod.enc y), .val (.int .i64 4)] (row 27 b) = some (.val (Cod.enc (prV o mn b (x, 3, y, 4, ())).1), row 27 (prV o mn b (x, 3, y, 4, ())).2) := by kernel_rfl
theorem prod75_35 : fnSum Try.prog { gam := (118, Sc 27 preM mn) :: gamN o } [] 20 120 [.ptr 0 0, .val (Cod.enc x), .val (.int .i64 3), .val (Cod.enc y), .val (.int .i64 5)] (row 27 b) = some (.val (Cod.enc (prV o mn b (x, 3, y, 5, ())).1), row 27 (prV o mn b (x, 3, y, 5, ())).2) := by kernel_rfl
theorem prod75_40 : fnSum Try.prog { gam := (118, Sc 27 preM mn) :: gamN o } [] 20 120 [.ptr 0 0, .val (Cod.enc x), .val (.int .i64 4), .val (Cod.enc y), .val (.int .i64 0)] (row 27 b) = some (.val (Cod.enc (prV o mn b (x, 4, y, 0, ())).1), row 27 (prV o mn b (x, 4, y, 0, ())).2) := by kernel_rfl
theorem prod75_41 : fnSum Try.prog { gam := (118, Sc 27 preM mn) :: gamN o } [] 20 120 [.ptr 0 0, .val (Cod.enc x), .val (.int .i64 4), .val (Cod.enc y), .val (.int .i64 1)] (row 27 b) = some (.val (Cod.enc (prV o mn b (x, 4, y, 1, ())).1), row 27 (prV o mn b (x, 4, y, 1, ())).2) := by kernel_rfl
theorem prod75_42 : fnSum Try.prog { gam := (118, Sc 27 preM mn) :: gamN o } [] 20 120 [.ptr 0 0, .val (Cod.enc x), .val (.int .i64 4), .val (Cod.enc y), .val (.int .i64 2)] (row 27 b) = some (.val (Cod.enc (prV o mn b (x, 4, y, 2, ())).1), row 27 (prV o mn b (x, 4, y, 2, ())).2) := by kernel_rfl
theorem prod75_43 : fnSum Try.prog { gam := (118, Sc 27 preM mn) :: gamN o } [] 20 120 [.ptr 0 0, .val (Cod.enc x), .val (.int .i64 4), .val (Cod.enc y), .val (.int .i64 3)] (row 27 b) = some (.val (Cod.enc (prV o mn b (x, 4, y, 3, ())).1), row 27 (prV o mn b (x, 4, y, 3, ())).2) := by kernel_rfl
theorem prod75_44 : fnSum Try.prog { gam := (118, Sc 27 preM mn) :: gamN o } [] 20 120 [.ptr 0 0, .val (Cod.enc x), .val (.int .i64 4), .val (Cod.enc y), .val (.int .i64 4)] (row 27 b) = some (.val (Cod.enc (prV o mn b (x, 4, y, 4, ())).1), row 27 (prV o mn b (x, 4, y, 4, ())).2) := by kernel_rfl
theorem prod75_45 : fnSum Try.prog { gam := (118, Sc 27 preM mn) :: gamN o } [] 20 120 [.ptr 0 0, .val (Cod.enc x), .val (.int .i64 4), .val (Cod.enc y), .val (.int .i64 5)] (row 27 b) = some (.val (Cod.enc (prV o mn b (x, 4, y, 5, ())).1), row 27 (prV o mn b (x, 4, y, 5, ())).2) := by kernel_rfl
theorem prod75_50 : fnSum Try.prog { gam := (118, Sc 27 preM mn) :: gamN o } [] 20 120 [.ptr 0 0, .val (Cod.enc x), .val (.int .i64 5), .val (Cod.enc y), .val (.int .i64 0)] (row 27 b) = some (.val (Cod.enc (prV o mn b (x, 5, y, 0, ())).1), row 27 (prV o mn b (x, 5, y, 0, ())).2) := by kernel_rfl
theorem prod75_51 : fnSum Try.prog { gam := (118, Sc 27 preM mn) :: gamN o } [] 20 120 [.ptr 0 0, .val (Cod.enc x), .val (.int .i64 5), .val (Cod.enc y), .val (.int .i64 1)] (row 27 b) = some (.val (Cod.enc (prV o mn b (x, 5, y, 1, ())).1), row 27 (prV o mn b (x, 5, y, 1, ())).2) := by kernel_rfl
theorem prod75_52 : fnSum Try.prog { gam := (118, Sc 27 preM mn) :: gamN o } [] 20 120 [.ptr 0 0, .val (Cod.enc x), .val (.int .i64 5), .val (Cod.enc y), .val (.int .i64 2)] (row 27 b) = some (.val (Cod.enc (prV o mn b (x, 5, y, 2, ())).1), row 27 (prV o mn b (x, 5, y, 2, ())).2) := by kernel_rfl
theorem prod75_53 : fnSum Try.prog { gam := (118, Sc 27 preM mn) :: gamN o } [] 20 120 [.ptr 0 0, .val (Cod.enc x), .val (.int .i64 5), .val (Cod.enc y), .val (.int .i64 3)] (row 27 b) = some (.val (Cod.enc (prV o mn b (x, 5, y, 3, ())).1), row 27 (prV o mn b (x, 5, y, 3, ())).2) := by kernel_rfl
theorem prod75_54 : fnSum Try.prog { gam := (118, Sc 27 preM mn) :: gamN o } [] 20 120 [.ptr 0 0, .val (Cod.enc x), .val (.int .i64 5), .val (Cod.enc y), .val (.int .i64 4)] (row 27 b) = some (.val (Cod.enc (prV o mn b (x, 5, y, 4, ())).1), row 27 (prV o mn b (x, 5, y, 4, ())).2) := by kernel_rfl
theorem prod75_55 : fnSum Try.prog { gam := (118, Sc 27 preM mn) :: gamN o } [] 20 120 [.ptr 0 0, .val (Cod.enc x), .val (.int .i64 5), .val (Cod.enc y), .val (.int .i64 5)] (row 27 b) = some (.val (Cod.enc (prV o mn b (x, 5, y, 5, ())).1), row 27 (prV o mn b (x, 5, y, 5, ())).2) := by kernel_rfl
end
theorem okProds {o : Ops} {mn : MFun} (hG : GamOk Try.prog ((118, Sc 27 preM mn) :: gamN o)) : SumOk Try.prog 120 (Sc 27 preP (prV o mn)) :=
  Sc_ok (E := { gam := (118, Sc 27 preM mn) :: gamN o }) hG 20 fun b p hp => by
    obtain ⟨x, i, y, j, u⟩ := p
    have h := Bool.and_eq_true_iff.1 hp
    rcases ix6_cases h.1 with hi | hi | hi | hi | hi | hi
    · subst hi; rcases ix6_cases h.2 with hj | hj | hj | hj | hj | hj
      · subst hj; exact prod75_00 o mn b x y
      · subst hj; exact prod75_01 o mn b x y
      · subst hj; exact prod75_02 o mn b x y
      · subst hj; exact prod75_03 o mn b x y
      · subst hj; exact prod75_04 o mn b x y
      · subst hj; exact prod75_05 o mn b x y
    · subst hi; rcases ix6_cases h.2 with hj | hj | hj | hj | hj | hj
      · subst hj; exact prod75_10 o mn b x y
      · subst hj; exact prod75_11 o mn b x y
      · subst hj; exact prod75_12 o mn b x y
      · subst hj; exact prod75_13 o mn b x y
      · subst hj; exact prod75_14 o mn b x y
      · subst hj; exact prod75_15 o mn b x y
    · subst hi; rcases ix6_cases h.2 with hj | hj | hj | hj | hj | hj
      · subst hj; exact prod75_20 o mn b x y
      · subst hj; exact prod75_21 o mn b x y
      · subst hj; exact prod75_22 o mn b x y
      · subst hj; exact prod75_23 o mn b x y
      · subst hj; exact prod75_24 o mn b x y
      · subst hj; exact prod75_25 o mn b x y
    · subst hi; rcases ix6_cases h.2 with hj | hj | hj | hj | hj | hj
      · subst hj; exact prod75_30 o mn b x y
      · subst hj; exact prod75_31 o mn b x y
      · subst hj; exact prod75_32 o mn b x y
      · subst hj; exact prod75_33 o mn b x y
      · subst hj; exact prod75_34 o mn b x y
      · subst hj; exact prod75_35 o mn b x y
    · subst hi; rcases ix6_cases h.2 with hj | hj | hj | hj | hj | hj
      · subst hj; exact prod75_40 o mn b x y
      · subst hj; exact prod75_41 o mn b x y
      · subst hj; exact prod75_42 o mn b x y
      · subst hj; exact prod75_43 o mn b x y
      · subst hj; exact prod75_44 o mn b x y
      · subst hj; exact prod75_45 o mn b x y
    · subst hi; rcases ix6_cases h.2 with hj | hj | hj | hj | hj | hj
      · subst hj; exact prod75_50 o mn b x y
      · subst hj; exact prod75_51 o mn b x y
      · subst hj; exact prod75_52 o mn b x y
      · subst hj; exact prod75_53 o mn b x y
      · subst hj; exact prod75_54 o mn b x y
      · subst hj; exact prod75_55 o mn b x y
end Go.Ab
