/- A part of the proof of 'MatSolved': lemmas, no statement of their own; no condition. -/
import Derived.Test.YtgccejhdohpojaaSqC
/- Squares of six rows: the loops' hints. -/
namespace Go.Ab
open Go Go.Proofs
theorem six_cells (r : R6) (l : List Value) : six (r.cells ++ l) = some (r, l) := rfl
theorem m6dec_cells (m : M6) (l : List Value) : m6dec (m6cells m ++ l) = some (m, l) := by
  unfold m6dec m6cells
  simp only [List.append_assoc, six_cells]
theorem sqDec_enc (s : SqS) : sqDec s.enc = some s := by
  have e : m6cells s.m = m6cells s.m ++ [] := (List.append_nil _).symm
  unfold SqS.enc
  rw [e]
  simp only [sqDec, decide_true, m6dec_cells]
theorem sqShape {xs : List Value} (h : sqPre xs = true) : ∃ i f l r m, xs = SqS.enc ⟨i, f, l, r, m⟩ ∧ 0 ≤ i ∧ i ≤ 6 := by
  unfold sqPre at h
  split at h
  · rename_i s hs
    simp only [Bool.and_eq_true, decide_eq_true_eq] at h
    exact ⟨s.i, s.f, s.l, s.r, s.m, sqDec_law hs, h.1, h.2⟩
  · cases h
theorem sq_len (s : SqS) : s.enc.length = 3 + 109 := rfl
theorem sqPre_enc {i : Int} {f : Bool} {l r m : M6} (h0 : 0 ≤ i) (h6 : i ≤ 6) : sqPre (SqS.enc ⟨i, f, l, r, m⟩) = true := by
  unfold sqPre
  rw [sqDec_enc]
  simp only [Bool.and_eq_true, decide_eq_true_eq]
  exact ⟨h0, h6⟩
def sqMu (xs : List Value) : Nat := match xs with | _ :: _ :: .int _ i :: _ => (6 - i).toNat | _ => 0
theorem sqMu_lt {i j : Int} {f g : Bool} {l r m l' r' m' : M6} (h : j = i + 1) (hi : i < 6) : sqMu (SqS.enc ⟨j, g, l', r', m'⟩) < sqMu (SqS.enc ⟨i, f, l, r, m⟩) := by
  show (6 - j).toNat < (6 - i).toNat
  omega
theorem sqPost_enc (F : Int → Bool → M6 → M6 → M6 × Bool) (s : SqS) : sqPostF F s.enc = SqS.enc ⟨6, (F s.i s.f s.l s.m).2, s.l, s.r, (F s.i s.f s.l s.m).1⟩ := by
  unfold sqPostF
  rw [sqDec_enc]
theorem R6_of_at (r : R6) : R6.of r.at = r := rfl
theorem M6_of_at (m : M6) : M6.of m.at = m := rfl
theorem sqPost_end (f : Bool) (l r m : M6) : sqPostF (sqF opsF) (SqS.enc ⟨(6 : Nat), f, l, r, m⟩) = SqS.enc ⟨(6 : Nat), f, l, r, m⟩ := by
  rw [sqPost_enc]
  rfl
theorem tm79 : Try.f79.ntmps = 45 := by kernel_rfl
theorem bl79 : blocksOf (Try.f79.body.getD .skip) = [(0, .loop (loopOf (blkOf Try.f79 0))), (1, blkOf Try.f79 1), (2, blkOf Try.f79 2), (3, blkOf Try.f79 3)] := by kernel_rfl
def hints79 : Hints := [(0, lwHint 45 [2, 15, 16] fx79 G79 rows79 LO HI ST sqPre (sqPostF (sqF opsF)))]
theorem sq79_k (f : Bool) (l r m : M6) (x : Nat → AV) {k : Nat} (hk : k < 6) : run Try.prog (callN Try.prog { gam := gamN opsF } 5) 45 { quiet := isSum (gamN opsF) } [] 1000 (Ex × St) (loopOf (blkOf Try.f79 0)) (st79 (k : Nat) f l r m x) (fun e s' => some (e, gcSt LO (rows79.map (fun p => p.1)) (maskSt G79 s'))) = some (.normal, st79 (k + 1 : Nat) (sqRow1 opsF l m k f).2 l r (M6.of (sqRow1 opsF l m k f).1) x) := by
  match k, hk with
  | 0, _ => exact sq79_0 opsF f l r m x
  | 1, _ => exact sq79_1 opsF f l r m x
  | 2, _ => exact sq79_2 opsF f l r m x
  | 3, _ => exact sq79_3 opsF f l r m x
  | 4, _ => exact sq79_4 opsF f l r m x
  | 5, _ => exact sq79_5 opsF f l r m x
theorem fit79 : ∀ fn c, Try.prog.funcs[79]? = some fn → fn.body = some c → HFit Try.prog fn.ntmps hints79 c := by
  intro fn c hf hb
  rw [Try.func79] at hf
  cases hf
  have hc : Try.f79.body.getD .skip = c := by rw [hb]; rfl
  rw [tm79]
  have hL := bl79
  rw [hc] at hL
  have hcall : ∀ β, CallOk Try.prog (callN Try.prog { gam := gamN opsF } 5 β) := callN_ok gamN_ok 5
  refine HFit.of fun p hp h hh s s' hs => ?_
  rw [hL] at hp
  simp only [List.mem_cons, List.not_mem_nil, or_false] at hp
  rcases hp with rfl | rfl | rfl | rfl
  · have : h = lwHint 45 [2, 15, 16] fx79 G79 rows79 LO HI ST sqPre (sqPostF (sqF opsF)) := (Option.some.inj hh).symm
    subst this
    refine lw_ok hcall (F := 1000) (wy := { quiet := isSum (gamN opsF) }) sqMu ?_ s s' hs
    intro xs _ hpre x
    obtain ⟨i, f, l, r, m, rfl, h0, h6⟩ := sqShape hpre
    obtain ⟨k, rfl⟩ : ∃ k : Nat, i = k := ⟨i.toNat, by omega⟩
    by_cases hk : k < 6
    · refine .inl ⟨SqS.enc ⟨(k + 1 : Nat), (sqRow1 opsF l m k f).2, l, r, M6.of (sqRow1 opsF l m k f).1⟩, sq_len _, sqPre_enc (by omega) (by omega), sqMu_lt (by omega) (by omega), ?_, sq79_k f l r m x hk⟩
      rw [sqPost_enc, sqPost_enc, sqF_step _ _ _ _ hk]
    · have hk6 : k = 6 := by omega
      subst hk6
      refine .inr ⟨by rw [sqPost_enc]; exact sq_len _, ?_⟩
      have := sq79_6 opsF f l r m x
      rw [sqPost_end]
      exact this
  · simp [findH, hints79] at hh
  · simp [findH, hints79] at hh
  · simp [findH, hints79] at hh
theorem tm84 : Try.f84.ntmps = 59 := by kernel_rfl
theorem bl84 : blocksOf (Try.f84.body.getD .skip) = [(0, .loop (loopOf (blkOf Try.f84 0))), (1, blkOf Try.f84 1), (2, blkOf Try.f84 2), (3, blkOf Try.f84 3), (4, blkOf Try.f84 4), (5, blkOf Try.f84 5)] := by kernel_rfl
def hints84 : Hints := [(0, lwHint 59 [2, 2, 8] fx84 G84 rows84 LO HI ST sqPre (sqPostF (sqF opsF)))]
theorem sq84_k (f : Bool) (l r m : M6) (x : Nat → AV) {k : Nat} (hk : k < 6) : run Try.prog (callN Try.prog { gam := gamN opsF } 5) 59 { quiet := isSum (gamN opsF) } [] 1000 (Ex × St) (loopOf (blkOf Try.f84 0)) (st84 (k : Nat) f l r m x) (fun e s' => some (e, gcSt LO (rows84.map (fun p => p.1)) (maskSt G84 s'))) = some (.normal, st84 (k + 1 : Nat) (sqRow1 opsF l m k f).2 l r (M6.of (sqRow1 opsF l m k f).1) x) := by
  match k, hk with
  | 0, _ => exact sq84_0 opsF f l r m x
  | 1, _ => exact sq84_1 opsF f l r m x
  | 2, _ => exact sq84_2 opsF f l r m x
  | 3, _ => exact sq84_3 opsF f l r m x
  | 4, _ => exact sq84_4 opsF f l r m x
  | 5, _ => exact sq84_5 opsF f l r m x
theorem fit84 : ∀ fn c, Try.prog.funcs[84]? = some fn → fn.body = some c → HFit Try.prog fn.ntmps hints84 c := by
  intro fn c hf hb
  rw [Try.func84] at hf
  cases hf
  have hc : Try.f84.body.getD .skip = c := by rw [hb]; rfl
  rw [tm84]
  have hL := bl84
  rw [hc] at hL
  have hcall : ∀ β, CallOk Try.prog (callN Try.prog { gam := gamN opsF } 5 β) := callN_ok gamN_ok 5
  refine HFit.of fun p hp h hh s s' hs => ?_
  rw [hL] at hp
  simp only [List.mem_cons, List.not_mem_nil, or_false] at hp
  rcases hp with rfl | rfl | rfl | rfl | rfl | rfl
  · have : h = lwHint 59 [2, 2, 8] fx84 G84 rows84 LO HI ST sqPre (sqPostF (sqF opsF)) := (Option.some.inj hh).symm
    subst this
    refine lw_ok hcall (F := 1000) (wy := { quiet := isSum (gamN opsF) }) sqMu ?_ s s' hs
    intro xs _ hpre x
    obtain ⟨i, f, l, r, m, rfl, h0, h6⟩ := sqShape hpre
    obtain ⟨k, rfl⟩ : ∃ k : Nat, i = k := ⟨i.toNat, by omega⟩
    by_cases hk : k < 6
    · refine .inl ⟨SqS.enc ⟨(k + 1 : Nat), (sqRow1 opsF l m k f).2, l, r, M6.of (sqRow1 opsF l m k f).1⟩, sq_len _, sqPre_enc (by omega) (by omega), sqMu_lt (by omega) (by omega), ?_, sq84_k f l r m x hk⟩
      rw [sqPost_enc, sqPost_enc, sqF_step _ _ _ _ hk]
    · have hk6 : k = 6 := by omega
      subst hk6
      refine .inr ⟨by rw [sqPost_enc]; exact sq_len _, ?_⟩
      have := sq84_6 opsF f l r m x
      rw [sqPost_end]
      exact this
  · simp [findH, hints84] at hh
  · simp [findH, hints84] at hh
  · simp [findH, hints84] at hh
  · simp [findH, hints84] at hh
  · simp [findH, hints84] at hh
end Go.Ab
