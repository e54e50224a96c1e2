/- A part of the proof of 'BdotHolds': lemmas, no statement of their own; no condition. -/
import Derived.Test.YtgccejhdohpojaaAbTwo
import Derived.Test.YtgccejhdohpojaaBdA
/- One field more: trees of both packages, and the document's search for the time. -/
namespace Go.Ab
open Go Go.Proofs
def Dr.zero : Dr := ⟨false, 0, V3.zero, V3.zero⟩
def rate1 (o : Ops) (t b l r : Int) (f : Bool) : Int × Bool :=
  let s := o.sub f b l
  let p := o.part s.2 s.1 1000 t
  let q := o.sub p.2 p.1 r
  let k := o.part q.2 q.1 t (IntKind.i64.wrap (t + 2000))
  o.add k.2 r k.1
def rates (o : Ops) (t : Int) (d : Dr) (u : V3) (f : Bool) : V3 × Bool := each3 f (rate1 o t u.x d.last.x d.rate.x) (rate1 o t u.y d.last.y d.rate.y) (rate1 o t u.z d.last.z d.rate.z)
def last3 (o : Ops) (u : V3) (f : Bool) : V3 × Bool := each3 f (fun b => o.add b u.x 0) (fun b => o.add b u.y 0) (fun b => o.add b u.z 0)
def doneD (e : TypeId) (d : Dr) (f : Bool) : Option (AV × List Con) := bif f then sayS e Dr.zero f else sayS e d f
where sayS (e : TypeId) (d : Dr) (f : Bool) : Option (AV × List Con) := some (.val (Cod.enc d), row e f)
theorem step58 (o : Ops) (bt : Int × Int × Unit → Two Int Bool) (va : Bool → V3 × V3 × Unit → V3 × Bool) (b : Bool) (d : Dr) (u : V3) (tk : Int) :
    fnSum Try.prog { gam := (133, S0 bt) :: (50, S 25 va) :: gamN o } [] 20 58 [.ptr 0 0, .val (Cod.enc d), .val (Cod.enc u), .val (.int .i64 tk)] (row 25 b) =
      let l := va b (u, V3.zero, ())
      let t := bt (d.tick, tk, ())
      bif t.b then bif d.on then doneD 25 ⟨true, tk, l.1, (rates o t.a d u l.2).1⟩ (rates o t.a d u l.2).2 else doneD 25 ⟨true, tk, l.1, V3.zero⟩ l.2 else doneD 25 ⟨true, tk, l.1, V3.zero⟩ l.2 := by kernel_rfl
theorem betw133 (s t : Int) : fnSum Try.prog { gam := [] } [] 20 133 [.val (.int .i64 s), .val (.int .i64 t)] [] =
    bif decide (t < s) then some (.val (Cod.enc (Two.mk (0 : Int) false)), []) else
      let d := IntKind.u64.wrap (IntKind.u64.wrap t - IntKind.u64.wrap s)
      bif decide (d ≥ 10) then some (.val (Cod.enc (Two.mk (IntKind.i64.wrap d) (decide (d ≤ 10000)))), []) else some (.val (Cod.enc (Two.mk (IntKind.i64.wrap d) false)), []) := by kernel_rfl
def stRows : RowsV := [(0, 27, 1), (4096, 46, 8), (1532495540865888858358347027150309183618739122183606272, 33, 3), (3064991081731777716716694054300618367237478244367208448, 46, 8)]
def stFx : List (Nat × Nat × Nat) := [(0, 0, 0), (5, 4096, 0), (6, 1532495540865888858358347027150309183618739122183606272, 0), (8, 3064991081731777716716694054300618367237478244367208448, 0)]
def stSl : List Nat := [3, 10, 11]
def stG : List Nat := nums 24 30
def stVs (tk t i dt : Int) (w : Fin 19 → Value) : List Value :=
  [.int .i64 tk, .int .i64 t, .int .i64 i, w 0, w 1, .int .i64 dt, w 2, w 3, w 4, w 5, w 6, w 7, w 8, w 9, w 10, w 11, w 12, w 13, w 14, w 15, w 16, w 17, w 18]
theorem stRound (tk t i dt : Int) (w : Fin 19 → Value) (x : Nat → AV) (lo hi step : Nat) :
    run Try.prog (callN Try.prog { gam := [] } 1) 103 {} [] 50 (Ex × St) (loopOf (blkOf Try.f59 2)) (lvSt 103 stSl stFx stG stRows (stVs tk t i dt w) x lo hi step) (fun e s' => some (e, maskSt stG s')) =
      bif decide (i ≤ 10000) then bif decide (dt ≤ IntKind.i64.wrap (9223372036854775807 - i)) then
        bif IntKind.i64.wrap (dt + i) == tk then some (.normal, lvSt 103 stSl stFx stG stRows (stVs tk i (IntKind.i64.wrap (i + 1)) dt w) x lo hi step)
        else some (.normal, lvSt 103 stSl stFx stG stRows (stVs tk t (IntKind.i64.wrap (i + 1)) dt w) x lo hi step)
      else some (.normal, lvSt 103 stSl stFx stG stRows (stVs tk t (IntKind.i64.wrap (i + 1)) dt w) x lo hi step)
      else some (.exit 2, lvSt 103 stSl stFx stG stRows (stVs tk t i dt w) x lo hi step) := by kernel_rfl
def stPostV (T : Int → Int → Int) : List Value → List Value
  | .int .i64 tk :: .int .i64 _ :: .int .i64 _ :: a :: b :: .int .i64 dt :: r => .int .i64 tk :: .int .i64 (T tk dt) :: .int .i64 10001 :: a :: b :: .int .i64 dt :: r
  | l => l
theorem stTmps : Try.f59.ntmps = 103 := by kernel_rfl
theorem stBlocks : blocksOf (Try.f59.body.getD .skip) = [(0, blkOf Try.f59 0), (1, blkOf Try.f59 1), (2, .loop (loopOf (blkOf Try.f59 2))), (3, blkOf Try.f59 3), (4, blkOf Try.f59 4), (5, blkOf Try.f59 5)] := by kernel_rfl
theorem step59 (o : Ops) (p : List Value → Bool) (T : Int → Int → Int) (b : Bool) (d : Dr) (u : V3) (tk : Int) :
    fnSum Try.prog { gam := gamN o } [(2, lvHint 103 stSl stFx stG stRows p (stPostV T))] 20 59 [.ptr 0 0, .val (Cod.enc d), .val (Cod.enc u), .val (.int .i64 tk)] (row 27 b) =
      let f := (last3 o u b).2
      bif p [.int .i64 tk, .int .i64 0, .int .i64 10, .bool f, .bool d.on, .int .i64 d.tick, .int .i64 d.last.x, .int .i64 d.last.y, .int .i64 d.last.z, .int .i64 d.rate.x, .int .i64 d.rate.y, .int .i64 d.rate.z,
        .int .i64 u.x, .int .i64 u.y, .int .i64 u.z, .bool false, .int .i64 0, .int .i64 0, .int .i64 0, .int .i64 0, .int .i64 0, .int .i64 0, .int .i64 0] then
        bif !d.on then doneD 27 ⟨true, tk, u, V3.zero⟩ f else bif T tk d.tick == 0 then doneD 27 ⟨true, tk, u, V3.zero⟩ f else
          doneD 27 ⟨true, tk, u, (rates o (T tk d.tick) d u f).1⟩ (rates o (T tk d.tick) d u f).2
      else none := by kernel_rfl
end Go.Ab
