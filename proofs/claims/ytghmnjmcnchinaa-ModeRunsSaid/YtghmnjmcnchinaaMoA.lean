/- A part of the proof of 'ModeRuns': lemmas, no statement of their own; no condition. -/
import Derived.Test.YtghmnjmcnchinaaAbTwo
/- Plans, what is seen, and the plan behind a step. -/
namespace Go.Ab
structure Pl where
  mode : Int
  calm : Int
  good : Int
  miss : Int
  lost : Int
  faults : Int
structure Sn where
  gap : Bool
  gyro : Bool
  slow : Bool
  pair : Bool
  lit : Bool
  bad : Bool
  pass : Bool
  order : Int
instance : Cod Pl where
  enc p := .agg #[.int .i64 p.mode, .int .i64 p.calm, .int .i64 p.good, .int .i64 p.miss, .int .i64 p.lost, .int .i64 p.faults]
  dec v := match v with | .agg ⟨[.int .i64 a, .int .i64 b, .int .i64 c, .int .i64 d, .int .i64 e, .int .i64 f]⟩ => some ⟨a, b, c, d, e, f⟩ | _ => none
  law v a h := by split at h <;> simp_all; subst h; simp
instance : Cod Sn where
  enc s := .agg #[.bool s.gap, .bool s.gyro, .bool s.slow, .bool s.pair, .bool s.lit, .bool s.bad, .bool s.pass, .int .i64 s.order]
  dec v := match v with | .agg ⟨[.bool a, .bool b, .bool c, .bool d, .bool e, .bool f, .bool g, .int .i64 h]⟩ => some ⟨a, b, c, d, e, f, g, h⟩ | _ => none
  law v a h := by split at h <;> simp_all; subst h; simp
/-- One more. -/
def cntV (n : Int) : Int := bif decide (n ≥ 100) then 100 else IntKind.i64.wrap (n + 1)
def toV (mode faults : Int) : Pl := ⟨mode, 0, 0, 0, 0, faults⟩
def orV (a b : Int) : Int := IntKind.i64.wrap ↑(BitVec.ofInt IntKind.i64.bits a ||| BitVec.ofInt IntKind.i64.bits b).toNat
def fineV (p : Pl) (s : Sn) : Pl :=
  bif s.gap then toV 1 (orV p.faults 1) else bif s.bad then toV 1 (orV p.faults 4) else
    let lost := bif s.gyro then 0 else cntV p.lost
    bif decide (lost ≥ 3) then toV 1 (orV p.faults 2) else
      bif s.pair && s.lit then
        let miss := bif s.pass then 0 else cntV p.miss
        bif decide (miss ≥ 5) then toV 1 (orV p.faults 8) else ⟨p.mode, p.calm, p.good, miss, lost, p.faults⟩
      else ⟨p.mode, p.calm, p.good, p.miss, lost, p.faults⟩
def nextV (p : Pl) (s : Sn) : Pl :=
  bif s.order == 1 then toV 3 p.faults else
  bif p.mode == 3 then (bif s.order == 2 then toV 0 0 else p) else
  bif p.mode == 0 then
    let calm := bif s.gyro && s.slow then cntV p.calm else 0
    bif decide (calm ≥ 3) then toV 1 p.faults else ⟨p.mode, calm, p.good, p.miss, p.lost, p.faults⟩
  else bif p.mode == 1 then
    bif s.gap then toV 1 (orV p.faults 1) else bif s.gyro && !s.slow then toV 0 p.faults else
      let good := bif s.gyro && (s.pair && s.lit) then cntV p.good else 0
      bif decide (good ≥ 2) then toV 2 p.faults else ⟨p.mode, p.calm, good, p.miss, p.lost, p.faults⟩
  else bif p.mode == 2 then fineV p s else toV 3 p.faults
end Go.Ab
