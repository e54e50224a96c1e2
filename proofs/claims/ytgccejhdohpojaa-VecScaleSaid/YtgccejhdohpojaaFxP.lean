/- A part of the proof of 'VecScale': lemmas, no statement of their own; no condition. -/
import Derived.Test.YtgccejhdohpojaaFxO
/- The document's ratio: its text's way. -/
namespace Go.Ab
open Go Go.Proofs
structure Three (α β γ : Type) where
  a : α
  b : β
  c : γ
instance {α β γ : Type} [Cod α] [Cod β] [Cod γ] : Cod (Three α β γ) where
  enc p := .tuple #[Cod.enc p.a, Cod.enc p.b, Cod.enc p.c]
  dec v := match v with
    | .tuple ⟨[a, b, c]⟩ => match Cod.dec a, Cod.dec b, Cod.dec c with | some x, some y, some z => some ⟨x, y, z⟩ | _, _, _ => none
    | _ => none
  law v a h := by
    split at h
    · split at h
      · rename_i h1 h2 h3
        cases h
        rw [Cod.law _ _ h1, Cod.law _ _ h2, Cod.law _ _ h3]
      · cases h
    · cases h
def overPre (p : Wd × U6 × Unit) : Bool := p.1.ok && word p.2.1.n
def overVal (p : Wd × U6 × Unit) : Three U6 U6 Bool :=
  bif p.2.1.n == 0 || decide (p.1.h ≥ p.2.1.n) then ⟨⟨0⟩, ⟨0⟩, false⟩ else ⟨⟨p.1.val / p.2.1.n⟩, ⟨p.1.val % p.2.1.n⟩, true⟩
theorem ok186 : SumOk Try.prog 186 (S0c overPre overVal) := by
  refine S0c_okH (E := { gam := [] }) GamOk.nil (hB := ovHints) ovFit 20 fun p hp => ?_
  obtain ⟨⟨ah, al⟩, ⟨b⟩, _⟩ := p
  refine (overTree opre (fun b lf _ i al => ovT lf al (i + 1).toNat % b) (fun b lf q i al => q * 2 ^ (i + 1).toNat + ovT lf al (i + 1).toNat / b) ⟨ah, al⟩ b).trans ?_
  simp only [overPre, Wd.ok, word, Bool.and_eq_true, decide_eq_true_eq] at hp
  unfold overVal
  dsimp only
  by_cases h0 : b = 0
  · subst h0; rfl
  have h0' : (b == 0) = false := by simp; exact h0
  rw [h0']
  by_cases h1 : ah ≥ b
  · simp only [h1, decide_true, cond_true, cond_false, Bool.or_true]; rfl
  simp only [h1, decide_false, cond_false, Bool.or_false]
  have hpre : opre [b, ah, 0, 63, ah, al] = true := by
    simp only [opre, decide_eq_true_eq]
    refine ⟨by omega, by omega, by omega, by omega, by omega, by omega, by omega, by omega, ?_⟩
    decide
  have hT : ovT ah al (63 + 1 : Int).toNat = (Wd.mk ah al).val := by
    show ah * 2 ^ 64 + al % 2 ^ 64 = ah * 18446744073709551616 + al
    have : (2 : Int) ^ 64 = 18446744073709551616 := by decide
    rw [this]
    omega
  rw [hpre, cond_true, hT]
  have : (0 : Int) * 2 ^ (63 + 1 : Int).toNat + (Wd.mk ah al).val / b = (Wd.mk ah al).val / b := by rw [Int.zero_mul, Int.zero_add]
  rw [this]
  rfl
def sgnTree {α : Type} (a b c : Int) (G : Bool → α) : α :=
  bif decide (a < 0) then (bif decide (b < 0) then (bif decide (c < 0) then G true else G false) else (bif decide (c < 0) then G false else G true))
  else (bif decide (b < 0) then (bif decide (c < 0) then G false else G true) else (bif decide (c < 0) then G true else G false))
theorem ratTree (mp : U6 × U6 × Unit → Bool) (mv : U6 × U6 × Unit → Wd) (op : Wd × U6 × Unit → Bool) (ov : Wd × U6 × Unit → Three U6 U6 Bool) (sz : Int × Unit → U6) (gv : Bool → U6 × Bool × Unit → Int × Bool) (a b c : Int) (f : Bool) :
    fnSum Try.prog { gam := [(172, S0c mp mv), (186, S0c op ov), (179, S0 sz), (174, S 27 gv)] } [] 20 168 [.ptr 0 0, .val (.int .i64 a), .val (.int .i64 b), .val (.int .i64 c)] (row 27 f) =
      let x := sz (a, ()); let y := sz (b, ()); let z := sz (c, ())
      let o := ov (Wd.mk (mv (⟨x.n⟩, ⟨y.n⟩, ())).h (mv (⟨x.n⟩, ⟨y.n⟩, ())).l, ⟨z.n⟩, ())
      let bad := some (AV.val (.int .i64 0), row 27 true)
      let G := fun (q : Int) (s : Bool) => some (AV.val (.int .i64 (gv f (⟨q⟩, s, ())).1), row 27 (gv f (⟨q⟩, s, ())).2)
      bif mp (⟨x.n⟩, ⟨y.n⟩, ()) then bif op (Wd.mk (mv (⟨x.n⟩, ⟨y.n⟩, ())).h (mv (⟨x.n⟩, ⟨y.n⟩, ())).l, ⟨z.n⟩, ()) then
        bif !o.c then bad else bif decide (o.a.n > 4611686018427387904) then bad else
          bif decide (o.b.n ≥ IntKind.u64.wrap (z.n - o.b.n)) then sgnTree a b c (G (IntKind.u64.wrap (o.a.n + 1))) else sgnTree a b c (G o.a.n)
      else none else none := by kernel_rfl
theorem size179 (a : Int) : fnSum Try.prog { gam := [] } [] 20 179 [.val (.int .i64 a)] [] =
    bif decide (a < 0) then some (.val (.int .u64 (IntKind.u64.wrap (IntKind.i64.wrap (0 - a)))), []) else some (.val (.int .u64 (IntKind.u64.wrap a)), []) := by kernel_rfl
theorem give174 (f s : Bool) (n : Int) : fnSum Try.prog { gam := [] } [] 20 174 [.ptr 0 0, .val (.int .u64 n), .val (.bool s)] (row 27 f) =
    bif decide (n > 4611686018427387904) then some (.val (.int .i64 0), row 27 true) else bif s then some (.val (.int .i64 (IntKind.i64.wrap (0 - IntKind.i64.wrap n))), row 27 f) else some (.val (.int .i64 (IntKind.i64.wrap n)), row 27 f) := by kernel_rfl
end Go.Ab
