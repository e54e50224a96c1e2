/- A part of the proof of 'MatSolved': lemmas, no statement of their own; no condition. -/
import Derived.Test.YtgccejhdohpojaaMtC
import Derived.Test.YtgccejhdohpojaaAbTwo
/- Squares of six rows: their outer loop, row by row. -/
namespace Go.Ab
open Go Go.Proofs
structure SqS where
  i : Int
  f : Bool
  l : M6
  r : M6
  m : M6
def m6cells (m : M6) : List Value := m.a.cells ++ (m.b.cells ++ (m.c.cells ++ (m.d.cells ++ (m.e.cells ++ m.f.cells))))
def SqS.enc (s : SqS) : List Value := .int .i64 6 :: .int .i64 6 :: .int .i64 s.i :: .bool s.f :: (m6cells s.l ++ (m6cells s.r ++ m6cells s.m))
def m6dec (l : List Value) : Option (M6 × List Value) := match six l with
  | some (a, l) => match six l with
    | some (b, l) => match six l with
      | some (c, l) => match six l with
        | some (d, l) => match six l with
          | some (e, l) => match six l with
            | some (f, l) => some (⟨a, b, c, d, e, f⟩, l)
            | none => none
          | none => none
        | none => none
      | none => none
    | none => none
  | none => none
theorem m6dec_law {l : List Value} {x : M6} {r : List Value} (h : m6dec l = some (x, r)) : l = m6cells x ++ r := by
  unfold m6dec at h
  split at h
  · rename_i a l1 h1
    split at h
    · rename_i b l2 h2
      split at h
      · rename_i c l3 h3
        split at h
        · rename_i d l4 h4
          split at h
          · rename_i e l5 h5
            split at h
            · rename_i f l6 h6
              cases h
              rw [six_law h1, six_law h2, six_law h3, six_law h4, six_law h5, six_law h6]
              simp only [m6cells, List.append_assoc]
            · cases h
          · cases h
        · cases h
      · cases h
    · cases h
  · cases h
def sqDec : List Value → Option SqS
  | .int .i64 n :: .int .i64 k :: .int .i64 i :: .bool f :: l => match decide (n = 6), decide (k = 6), m6dec l with
    | true, true, some (a, l) => match m6dec l with
      | some (b, l) => match m6dec l with
        | some (c, []) => some ⟨i, f, a, b, c⟩
        | _ => none
      | none => none
    | _, _, _ => none
  | _ => none
theorem sqDec_law {vs : List Value} {s : SqS} (h : sqDec vs = some s) : vs = s.enc := by
  unfold sqDec at h
  split at h
  · split at h
    · rename_i hn hk h1
      split at h
      · rename_i h2
        split at h
        · rename_i h3
          cases h
          have hn := of_decide_eq_true hn
          have hk := of_decide_eq_true hk
          subst hn; subst hk
          rw [m6dec_law h1, m6dec_law h2, m6dec_law h3]
          simp only [SqS.enc, List.append_nil]
        · cases h
      · cases h
    · cases h
  · cases h
def sqPre (vs : List Value) : Bool := match sqDec vs with | some s => decide (0 ≤ s.i) && decide (s.i ≤ 6) | none => false
def sqPostF (F : Int → Bool → M6 → M6 → M6 × Bool) (vs : List Value) : List Value := match sqDec vs with
  | some s => SqS.enc ⟨6, (F s.i s.f s.l s.m).2, s.l, s.r, (F s.i s.f s.l s.m).1⟩
  | none => vs
def fx79 : List (Nat × Nat × Nat) := [(0, 0, 0), (4, 4096, 0), (6, 1532495540865888858358347027150309183618739122183606272, 0), (7, 4597486622597666575075041081450927550856217366550810624, 0)]
def rows79 : RowsV := [(0, 25, 1), (4096, 60, 36), (1532495540865888858358347027150309183618739122183606272, 60, 36), (4597486622597666575075041081450927550856217366550810624, 60, 36)]
def G79 : List Nat := 8 :: 9 :: nums 17 22
abbrev LO : Nat := 4096 + 2 ^ 190
abbrev HI : Nat := 4096 + 2 ^ 191
abbrev ST : Nat := 2 ^ 170
def sqRow1 (o : Ops) (l m : M6) (i : Nat) (f : Bool) : Mx × Bool := sqRowN o l.at 6 i (m.at, f) 6
def st79 (i : Int) (f : Bool) (l r m : M6) (x : Nat → AV) : St := lvSt 45 [2, 15, 16] fx79 G79 rows79 (SqS.enc ⟨i, f, l, r, m⟩) x LO HI ST
theorem sq79_0 (o : Ops) (f : Bool) (l r m : M6) (x : Nat → AV) : run Try.prog (callN Try.prog { gam := gamN o } 5) 45 { quiet := isSum (gamN o) } [] 1000 (Ex × St) (loopOf (blkOf Try.f79 0)) (st79 0 f l r m x) (fun e s' => some (e, gcSt LO (rows79.map (fun p => p.1)) (maskSt G79 s'))) = some (.normal, st79 1 (sqRow1 o l m 0 f).2 l r (M6.of (sqRow1 o l m 0 f).1) x) := by kernel_rfl
theorem sq79_1 (o : Ops) (f : Bool) (l r m : M6) (x : Nat → AV) : run Try.prog (callN Try.prog { gam := gamN o } 5) 45 { quiet := isSum (gamN o) } [] 1000 (Ex × St) (loopOf (blkOf Try.f79 0)) (st79 1 f l r m x) (fun e s' => some (e, gcSt LO (rows79.map (fun p => p.1)) (maskSt G79 s'))) = some (.normal, st79 2 (sqRow1 o l m 1 f).2 l r (M6.of (sqRow1 o l m 1 f).1) x) := by kernel_rfl
theorem sq79_2 (o : Ops) (f : Bool) (l r m : M6) (x : Nat → AV) : run Try.prog (callN Try.prog { gam := gamN o } 5) 45 { quiet := isSum (gamN o) } [] 1000 (Ex × St) (loopOf (blkOf Try.f79 0)) (st79 2 f l r m x) (fun e s' => some (e, gcSt LO (rows79.map (fun p => p.1)) (maskSt G79 s'))) = some (.normal, st79 3 (sqRow1 o l m 2 f).2 l r (M6.of (sqRow1 o l m 2 f).1) x) := by kernel_rfl
theorem sq79_3 (o : Ops) (f : Bool) (l r m : M6) (x : Nat → AV) : run Try.prog (callN Try.prog { gam := gamN o } 5) 45 { quiet := isSum (gamN o) } [] 1000 (Ex × St) (loopOf (blkOf Try.f79 0)) (st79 3 f l r m x) (fun e s' => some (e, gcSt LO (rows79.map (fun p => p.1)) (maskSt G79 s'))) = some (.normal, st79 4 (sqRow1 o l m 3 f).2 l r (M6.of (sqRow1 o l m 3 f).1) x) := by kernel_rfl
theorem sq79_4 (o : Ops) (f : Bool) (l r m : M6) (x : Nat → AV) : run Try.prog (callN Try.prog { gam := gamN o } 5) 45 { quiet := isSum (gamN o) } [] 1000 (Ex × St) (loopOf (blkOf Try.f79 0)) (st79 4 f l r m x) (fun e s' => some (e, gcSt LO (rows79.map (fun p => p.1)) (maskSt G79 s'))) = some (.normal, st79 5 (sqRow1 o l m 4 f).2 l r (M6.of (sqRow1 o l m 4 f).1) x) := by kernel_rfl
theorem sq79_5 (o : Ops) (f : Bool) (l r m : M6) (x : Nat → AV) : run Try.prog (callN Try.prog { gam := gamN o } 5) 45 { quiet := isSum (gamN o) } [] 1000 (Ex × St) (loopOf (blkOf Try.f79 0)) (st79 5 f l r m x) (fun e s' => some (e, gcSt LO (rows79.map (fun p => p.1)) (maskSt G79 s'))) = some (.normal, st79 6 (sqRow1 o l m 5 f).2 l r (M6.of (sqRow1 o l m 5 f).1) x) := by kernel_rfl
theorem sq79_6 (o : Ops) (f : Bool) (l r m : M6) (x : Nat → AV) : run Try.prog (callN Try.prog { gam := gamN o } 5) 45 { quiet := isSum (gamN o) } [] 1000 (Ex × St) (loopOf (blkOf Try.f79 0)) (st79 6 f l r m x) (fun e s' => some (e, gcSt LO (rows79.map (fun p => p.1)) (maskSt G79 s'))) = some (.exit 0, st79 6 f l r m x) := by kernel_rfl
end Go.Ab
