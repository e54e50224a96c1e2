/- A part of the proof of 'VecScale': lemmas, no statement of their own; no condition. -/
import Derived.Test.YtgccejhdohpojaaAcC
import Derived.Test.YtgccejhdohpojaaFxJ
/- The document's Times: a product, bit by bit. -/
namespace Go.Ab
open Go Go.Proofs
theorem addTree (a b : Wd) : fnSum Try.prog { gam := [] } [] 20 178 [.val (Cod.enc a), .val (Cod.enc b)] [] =
    bif decide (IntKind.u64.wrap (a.l + b.l) < a.l) then some (.val (Cod.enc (Wd.mk (IntKind.u64.wrap (IntKind.u64.wrap (a.h + b.h) + 1)) (IntKind.u64.wrap (a.l + b.l)))), [])
    else some (.val (Cod.enc (Wd.mk (IntKind.u64.wrap (a.h + b.h)) (IntKind.u64.wrap (a.l + b.l)))), []) := by kernel_rfl
def adV (p : Wd × Wd × Unit) : Wd :=
  bif decide (IntKind.u64.wrap (p.1.l + p.2.1.l) < p.1.l) then ⟨IntKind.u64.wrap (IntKind.u64.wrap (p.1.h + p.2.1.h) + 1), IntKind.u64.wrap (p.1.l + p.2.1.l)⟩ else ⟨IntKind.u64.wrap (p.1.h + p.2.1.h), IntKind.u64.wrap (p.1.l + p.2.1.l)⟩
theorem ok178 : SumOk Try.prog 178 (S0 adV) := by
  refine S0_ok (E := { gam := [] }) GamOk.nil 20 fun p => ?_
  obtain ⟨a, b, _⟩ := p
  refine (addTree a b).trans ?_
  unfold adV
  dsimp only
  cases decide (IntKind.u64.wrap (a.l + b.l) < a.l) <;> rfl
def Wd.ok (a : Wd) : Bool := word a.h && word a.l
def Wd.val (a : Wd) : Int := a.h * 18446744073709551616 + a.l
theorem adV_val {a b : Wd} (ha : a.ok = true) (hb : b.ok = true) : (adV (a, b, ())).ok = true ∧ (adV (a, b, ())).val = (a.val + b.val) % 340282366920938463463374607431768211456 := by
  simp only [Wd.ok, word, Bool.and_eq_true, decide_eq_true_eq] at ha hb
  unfold adV
  dsimp only
  simp only [wrap_u64]
  by_cases h : (a.l + b.l) % 18446744073709551616 < a.l
  · simp only [h, decide_true, cond_true, Wd.ok, Wd.val, word, Bool.and_eq_true, decide_eq_true_eq]
    omega
  · simp only [h, decide_false, cond_false, Wd.ok, Wd.val, word, Bool.and_eq_true, decide_eq_true_eq]
    omega
def tmRows : Rows' := [(4096, 171, [.u64, .u64]), (1532495540865888858358347027150309183618739122183606272, 171, [.u64, .u64]), (3064991081731777716716694054300618367237478244367208448, 171, [.u64, .u64])]
def tmFx : List (Nat × Nat × Nat) := [(4, 4096, 0), (5, 1532495540865888858358347027150309183618739122183606272, 0), (6, 3064991081731777716716694054300618367237478244367208448, 0)]
def tmSl : Slots := [(1, .int .u64)]
def termEnd (b : Nat) (t : Wd) : Wd := if h : b = 0 then t else termEnd (b / 2) (adV (t, t, ()))
termination_by b
def tpre : List Int → Bool
  | [b, _, _, s1, s2, t1, t2] => word b && ((Wd.mk s1 s2).ok && ((Wd.mk t1 t2).ok && decide ((Wd.mk s1 s2).val + (Wd.mk t1 t2).val * b < 340282366920938463463374607431768211456)))
  | _ => false
def tpostV (A B C D : Int → Int → Int → Int → Int → Int) : List Int → List Int
  | [b, z1, z2, s1, s2, t1, t2] => [0, z1, z2, A b s1 s2 t1 t2, B b s1 s2 t1 t2, C b s1 s2 t1 t2, D b s1 s2 t1 t2]
  | l => l
def tpost : List Int → List Int := tpostV (fun b s1 s2 t1 t2 => ((Wd.mk s1 s2).val + (Wd.mk t1 t2).val * b) / 18446744073709551616) (fun b s1 s2 t1 t2 => ((Wd.mk s1 s2).val + (Wd.mk t1 t2).val * b) % 18446744073709551616)
  (fun b _ _ t1 t2 => (termEnd b.toNat ⟨t1, t2⟩).h) (fun b _ _ t1 t2 => (termEnd b.toNat ⟨t1, t2⟩).l)
theorem timesRound (ad : Wd × Wd × Unit → Wd) (b z1 z2 s1 s2 t1 t2 : Int) (x : Nat → AV) (lo hi step : Nat) :
    run Try.prog (callN Try.prog { gam := [(178, S0 ad)] } 1) 24 { quiet := isSum [(178, S0 ad)] } [] 50 (Ex × St) (loopOf (blkOf Try.f172 0)) (lqSt 24 tmSl tmFx (nums 10 14) tmRows [b, z1, z2, s1, s2, t1, t2] x lo hi step) (fun e s' => some (e, maskSt (nums 10 14) s')) =
      bif decide (b > 0) then
        bif b.tmod 2 == 1 then some (.normal, lqSt 24 tmSl tmFx (nums 10 14) tmRows [IntKind.u64.wrap (b.tdiv 2), z1, z2, (ad (⟨s1, s2⟩, ⟨t1, t2⟩, ())).h, (ad (⟨s1, s2⟩, ⟨t1, t2⟩, ())).l, (ad (⟨t1, t2⟩, ⟨t1, t2⟩, ())).h, (ad (⟨t1, t2⟩, ⟨t1, t2⟩, ())).l] x lo hi step)
        else some (.normal, lqSt 24 tmSl tmFx (nums 10 14) tmRows [IntKind.u64.wrap (b.tdiv 2), z1, z2, s1, s2, (ad (⟨t1, t2⟩, ⟨t1, t2⟩, ())).h, (ad (⟨t1, t2⟩, ⟨t1, t2⟩, ())).l] x lo hi step)
      else some (.exit 0, lqSt 24 tmSl tmFx (nums 10 14) tmRows [b, z1, z2, s1, s2, t1, t2] x lo hi step) := by kernel_rfl
theorem timesTree (ad : Wd × Wd × Unit → Wd) (p : List Int → Bool) (A B C D : Int → Int → Int → Int → Int → Int) (a b : Int) :
    fnSum Try.prog { gam := [(178, S0 ad)] } [(0, lqHint 24 tmSl tmFx (nums 10 14) tmRows p (tpostV A B C D))] 20 172 [.val (.int .u64 a), .val (.int .u64 b)] [] =
      bif p [b, 0, 0, 0, 0, 0, a] then some (.val (Cod.enc (Wd.mk (A b 0 0 0 a) (B b 0 0 0 a))), []) else none := by kernel_rfl
end Go.Ab
