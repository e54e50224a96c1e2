/- A part of the proof of 'ModeRuns': lemmas, no statement of their own; no condition. -/
import Derived.Test.YtghmnjmcnchinaaLvModes
import Derived.Test.YtghmnjmcnchinaaWrM
import Derived.Test.YtghmnjmcnchinaaAbTwo
/- ModeFine: steps in which all is well lead to Fine, and it stays so. -/
namespace Go.Ab
open Go Go.Proofs
def goodV : Sn := ⟨false, true, true, true, true, false, true, 0⟩
theorem good11 : fnSum Try.prog { gam := [] } [] 20 11 [] [] = some (.val (Cod.enc goodV), []) := by kernel_rfl
theorem ok11 : SumOk Try.prog 11 (S0 fun (_ : Unit) => goodV) := S0_ok (E := { gam := [] }) GamOk.nil 20 fun _ => good11
def fiGam (nx : Pl × Sn × Unit → Pl) : Gam := [(8, S0 fun (_ : Unit) => true), (9, S0 nx), (11, S0 fun (_ : Unit) => goodV)]
theorem fiGam_ok : GamOk Try.prog (fiGam nxt) := .cons ok8 (.cons ok9 (.cons ok11 .nil))
def fiSl : List Nat := [48, 47, 5, 4]
def fiFx : List (Nat × Nat × Nat) := [(2, 4096, 0)]
def fiG : List Nat := 6 :: nums 49 19
def fiRows : RowsV := [(4096, 23, 6)]
def fiVs (i n fa : Int) (r : Value) (p : Pl) : List Value := [.int .i64 i, .int .i64 n, .int .i64 fa, r, .int .i64 p.mode, .int .i64 p.calm, .int .i64 p.good, .int .i64 p.miss, .int .i64 p.lost, .int .i64 p.faults]
def blkM : Code → Nat → Code
  | .seq a b, i => match blkM a i with | .skip => blkM b i | c => c
  | .block id c, i => match Nat.beq id i with | true => c | false => blkM c i
  | .loop c, i => blkM c i
  | _, _ => .skip
def loopM : Code → Code
  | .loop c => c
  | c => c
noncomputable def fiLoop : Code := loopM (blkM (Try.f5.body.getD .skip) 0)
theorem fiTmps : Try.f5.ntmps = 68 := by kernel_rfl
theorem fiBlocks : (blocksOf (Try.f5.body.getD .skip)).map (·.1) = [0, 1] := by kernel_rfl
theorem fiBlock0 : (blocksOf (Try.f5.body.getD .skip))[0]? = some (0, .loop fiLoop) := by kernel_rfl
theorem fiRound (nx : Pl × Sn × Unit → Pl) (i n fa : Int) (r : Value) (p : Pl) (x : Nat → AV) (lo hi step : Nat) :
    run Try.prog (callN Try.prog { gam := fiGam nx } 1) 68 { quiet := isSum (fiGam nx) } [] 50 (Ex × St) fiLoop (lvSt 68 fiSl fiFx fiG fiRows (fiVs i n fa r p) x lo hi step) (fun e s' => some (e, maskSt fiG s')) =
      bif decide (i < n) then
        let q := nx (p, goodV, ())
        bif decide (i ≥ 15) then
          bif q.mode != 2 then some (.ret, lvSt 68 fiSl fiFx fiG fiRows (fiVs i n fa (.bool false) q) x lo hi step) else
          bif q.faults != fa then some (.ret, lvSt 68 fiSl fiFx fiG fiRows (fiVs i n fa (.bool false) q) x lo hi step) else
          some (.normal, lvSt 68 fiSl fiFx fiG fiRows (fiVs (IntKind.i64.wrap (i + 1)) n fa r q) x lo hi step)
        else bif q.faults != fa then some (.ret, lvSt 68 fiSl fiFx fiG fiRows (fiVs i n fa (.bool false) q) x lo hi step) else
          some (.normal, lvSt 68 fiSl fiFx fiG fiRows (fiVs (IntKind.i64.wrap (i + 1)) n fa r q) x lo hi step)
      else some (.exit 0, lvSt 68 fiSl fiFx fiG fiRows (fiVs i n fa r p) x lo hi step) := by kernel_rfl
noncomputable def fiIn : Code := ((blocksOf (Try.f5.body.getD .skip))[1]?.getD (0, .skip)).2
theorem fiAll : blocksOf (Try.f5.body.getD .skip) = [(0, .loop fiLoop), (1, fiIn)] := by kernel_rfl
/-- How many steps it is from Fine. -/
def fiRank (p : Pl) : Int := if p.mode = 2 then 0 else if p.mode = 1 then (if 1 ≤ p.good then 1 else 2) else if 2 ≤ p.calm then 3 else if 1 ≤ p.calm then 4 else 5
theorem fiRank_nn (p : Pl) : 0 ≤ fiRank p := by
  unfold fiRank
  repeat' split
  all_goals omega
def FiInv (i fa : Int) (p : Pl) : Prop := p.faults = fa ∧ 0 ≤ p.calm ∧ 0 ≤ p.good ∧ 0 ≤ p.miss ∧ 0 ≤ p.lost ∧ 0 ≤ p.mode ∧ p.mode ≤ 2 ∧ (p.mode = 2 ∨ fiRank p + i ≤ 5)
instance (i fa : Int) (p : Pl) : Decidable (FiInv i fa p) := by unfold FiInv; infer_instance
theorem cntV_val {n : Int} (h : 0 ≤ n) : cntV n = if 100 ≤ n then 100 else n + 1 := by
  unfold cntV
  by_cases h1 : 100 ≤ n
  · rw [decide_eq_true (p := n ≥ 100) h1, if_pos h1]; rfl
  · rw [decide_eq_false (p := n ≥ 100) h1, if_neg h1, cond_false]
    simp only [wrapM]
    omega
theorem fi_next {i fa : Int} {p : Pl} (h : FiInv i fa p) : FiInv (i + 1) fa (nxt (p, goodV, ())) := by
  obtain ⟨mode, calm, good, miss, lost, faults⟩ := p
  obtain ⟨h1, h2, h3, h4, h5, h6, h7, h8⟩ := h
  dsimp only at h1 h2 h3 h4 h5 h6 h7 h8
  have hm : mode = 0 ∨ mode = 1 ∨ mode = 2 := by omega
  unfold FiInv nxt nextV
  rcases hm with rfl | rfl | rfl
  · have e : (if (100 : Int) ≤ calm then 100 else calm + 1) ≥ 3 ↔ calm ≥ 2 := by split <;> omega
    simp only [goodV, cntV_val h2, fiRank] at h8 ⊢
    by_cases hc : calm ≥ 2
    · have : decide ((if (100 : Int) ≤ calm then 100 else calm + 1) ≥ 3) = true := decide_eq_true (e.2 hc)
      simp [this, toV] at h8 ⊢
      refine ⟨h1, ?_⟩
      split at h8 <;> omega
    · have : decide ((if (100 : Int) ≤ calm then 100 else calm + 1) ≥ 3) = false := decide_eq_false (fun h => hc (e.1 h))
      have e2 : (if (100 : Int) ≤ calm then 100 else calm + 1) = calm + 1 := if_neg (by omega)
      rw [e2] at this
      have this' : decide (3 ≤ calm + 1) = false := this
      simp [this', e2] at h8 ⊢
      refine ⟨h1, by omega, h3, h4, h5, ?_⟩
      split at h8 <;> split <;> omega
  · have e : (if (100 : Int) ≤ good then 100 else good + 1) ≥ 2 ↔ good ≥ 1 := by split <;> omega
    simp only [goodV, cntV_val h3, fiRank] at h8 ⊢
    by_cases hc : good ≥ 1
    · have : decide ((if (100 : Int) ≤ good then 100 else good + 1) ≥ 2) = true := decide_eq_true (e.2 hc)
      simp [this, toV] at h8 ⊢
      exact h1
    · have : decide ((if (100 : Int) ≤ good then 100 else good + 1) ≥ 2) = false := decide_eq_false (fun h => hc (e.1 h))
      have e2 : (if (100 : Int) ≤ good then 100 else good + 1) = good + 1 := if_neg (by omega)
      rw [e2] at this
      have this' : decide (2 ≤ good + 1) = false := this
      simp [this', e2] at h8 ⊢
      refine ⟨h1, h2, by omega, h4, h5, ?_⟩
      split at h8 <;> split <;> omega
  · simp [goodV, fineV]
    exact ⟨h1, h2, h3⟩
def fiPre : List Value → Bool
  | [.int .i64 i, .int .i64 n, .int .i64 fa, _, .int .i64 a, .int .i64 b, .int .i64 c, .int .i64 d, .int .i64 e, .int .i64 f] => decide (0 ≤ i ∧ i ≤ n ∧ n ≤ 200 ∧ FiInv i fa ⟨a, b, c, d, e, f⟩)
  | _ => false
def fiIter : Nat → Pl → Pl
  | 0, p => p
  | k + 1, p => fiIter k (nxt (p, goodV, ()))
def fiPost : List Value → List Value
  | [.int .i64 i, .int .i64 n, .int .i64 fa, r, .int .i64 a, .int .i64 b, .int .i64 c, .int .i64 d, .int .i64 e, .int .i64 f] => fiVs n n fa r (fiIter (n - i).toNat ⟨a, b, c, d, e, f⟩)
  | l => l
theorem fiShape {xs : List Value} (h : fiPre xs = true) : ∃ i n fa r p, xs = fiVs i n fa r p ∧ 0 ≤ i ∧ i ≤ n ∧ n ≤ 200 ∧ FiInv i fa p := by
  unfold fiPre at h
  split at h
  · rename_i i n fa r a b c d e f
    simp only [decide_eq_true_eq] at h
    exact ⟨i, n, fa, r, ⟨a, b, c, d, e, f⟩, rfl, h.1, h.2.1, h.2.2.1, h.2.2.2⟩
  · cases h
def fiHints : Hints := [(0, lvHint 68 fiSl fiFx fiG fiRows fiPre fiPost)]
theorem fiFit : ∀ fn c, Try.prog.funcs[5]? = some fn → fn.body = some c → HFit Try.prog fn.ntmps fiHints c := by
  intro fn c hf hb
  rw [Try.func5] at hf
  cases hf
  have hc : Try.f5.body.getD .skip = c := by rw [hb]; rfl
  rw [fiTmps]
  have hL := fiAll
  rw [hc] at hL
  refine HFit.of fun p hp h hh s s' hs => ?_
  rw [hL] at hp
  simp only [List.mem_cons, List.not_mem_nil, or_false] at hp
  rcases hp with rfl | rfl
  · have : h = lvHint 68 fiSl fiFx fiG fiRows fiPre fiPost := (Option.some.inj hh).symm
    subst this
    refine lv_ok (callN_ok (E := { gam := fiGam nxt }) fiGam_ok 1) (F := 50) (wy := { quiet := isSum (fiGam nxt) }) (fun xs => match xs with | .int _ i :: .int _ n :: _ => (n - i).toNat | _ => 0) ?_ s s' hs
    intro xs hlen hpre x lo hi step
    obtain ⟨i, n, fa, r, p, rfl, h1, h2, h3, h4⟩ := fiShape hpre
    rw [fiRound]
    dsimp only
    have h5 := fi_next h4
    by_cases hlt : i < n
    · refine .inl ⟨fiVs (i + 1) n fa r (nxt (p, goodV, ())), rfl, ?_, ?_, ?_, ?_⟩
      · simp only [fiPre, fiVs, decide_eq_true_eq]
        exact ⟨by omega, by omega, h3, h5⟩
      · show (n - (i + 1)).toNat < (n - i).toNat
        omega
      · show fiVs n n fa r (fiIter (n - (i + 1)).toNat _) = fiVs n n fa r (fiIter (n - i).toNat _)
        have : (n - i).toNat = (n - (i + 1)).toNat + 1 := by omega
        rw [this]
        rfl
      · rw [decide_eq_true hlt, cond_true]
        have hfa : ((nxt (p, goodV, ())).faults != fa) = false := by simp [h5.1]
        rw [hfa, cond_false]
        have hw : IntKind.i64.wrap (i + 1) = i + 1 := by simp only [wrapM]; omega
        rw [hw]
        by_cases h15 : i ≥ 15
        · have hm : ((nxt (p, goodV, ())).mode != 2) = false := by
            obtain ⟨_, _, _, _, _, _, _, h8⟩ := h5
            rcases h8 with h8 | h8
            · simp [h8]
            · exfalso
              have := fiRank_nn (nxt (p, goodV, ()))
              omega
          rw [decide_eq_true h15, cond_true, hm]
          rfl
        · rw [decide_eq_false h15]
          rfl
    · refine .inr ?_
      have hin : i = n := by omega
      subst hin
      rw [decide_eq_false hlt, cond_false]
      have : fiPost (fiVs i i fa r p) = fiVs i i fa r p := by
        show fiVs i i fa r (fiIter (i - i).toNat _) = _
        rw [Int.sub_self]
        rfl
      rw [this]
  · simp [findH, fiHints] at hh
theorem law5 (nx : Pl × Sn × Unit → Pl) (pre : List Value → Bool) (it : Nat → Pl → Pl) (p : Pl) (n : Int) :
    fnSum Try.prog { gam := fiGam nx } [(0, lvHint 68 fiSl fiFx fiG fiRows pre fun l => match l with
      | [.int .i64 i, .int .i64 n, .int .i64 fa, r, .int .i64 a, .int .i64 b, .int .i64 c, .int .i64 d, .int .i64 e, .int .i64 f] => fiVs n n fa r (it (n - i).toNat ⟨a, b, c, d, e, f⟩)
      | l => l)] 20 5 [.val (Cod.enc p), .val (.int .i64 n)] [] =
      bif decide (p.mode < 0) then T_ else bif decide (p.mode > 2) then T_ else bif decide (n < 16) then T_ else bif decide (n > 200) then T_ else bif decide (p.calm < 0) then T_ else bif decide (p.good < 0) then T_ else bif decide (p.miss < 0) then T_ else bif decide (p.lost < 0) then T_ else
        bif pre (fiVs 0 n p.faults (.bool false) p) then T_ else none := by kernel_rfl
theorem fi_start (n : Int) (p : Pl) (h1 : ¬ p.mode < 0) (h2 : ¬ p.mode > 2) (h3 : ¬ n < 16) (h4 : ¬ n > 200) (h5 : ¬ p.calm < 0) (h6 : ¬ p.good < 0) (h7 : ¬ p.miss < 0) (h8 : ¬ p.lost < 0) : fiPre (fiVs 0 n p.faults (.bool false) p) = true := by
  obtain ⟨mode, calm, good, miss, lost, faults⟩ := p
  simp only [fiPre, fiVs, decide_eq_true_eq]
  dsimp only at h1 h2 h5 h6 h7 h8
  refine ⟨by omega, by omega, by omega, rfl, by show 0 ≤ calm; omega, by show 0 ≤ good; omega, by show 0 ≤ miss; omega, by show 0 ≤ lost; omega, by show 0 ≤ mode; omega, by show mode ≤ 2; omega, .inr ?_⟩
  unfold fiRank
  dsimp only
  repeat' split
  all_goals omega
theorem ModeFine_calls (a0_0 a0_1 a0_2 a0_3 a0_4 a0_5 a1 : Int) (w : World) : Calls Try.prog 5 #[.agg #[.int .i64 a0_0, .int .i64 a0_1, .int .i64 a0_2, .int .i64 a0_3, .int .i64 a0_4, .int .i64 a0_5], .int .i64 a1] w fun e w' => e = .returned (.bool true) ∧ RowKit.Below w.heap.size w w' := by
  have e := law5 nxt fiPre fiIter ⟨a0_0, a0_1, a0_2, a0_3, a0_4, a0_5⟩ a1
  have hk : fnSum Try.prog { gam := fiGam nxt } fiHints 20 5 [.val (Cod.enc (⟨a0_0, a0_1, a0_2, a0_3, a0_4, a0_5⟩ : Pl)), .val (.int .i64 a1)] [] = T_ := by
    refine e.trans ?_
    dsimp only
    by_cases h1 : a0_0 < 0
    · rw [decide_eq_true h1]; rfl
    by_cases h2 : a0_0 > 2
    · rw [decide_eq_false h1, decide_eq_true h2]; rfl
    by_cases h3 : a1 < 16
    · rw [decide_eq_false h1, decide_eq_false h2, decide_eq_true h3]; rfl
    by_cases h4 : a1 > 200
    · rw [decide_eq_false h1, decide_eq_false h2, decide_eq_false h3, decide_eq_true h4]; rfl
    by_cases h5 : a0_1 < 0
    · rw [decide_eq_false h1, decide_eq_false h2, decide_eq_false h3, decide_eq_false h4, decide_eq_true h5]; rfl
    by_cases h6 : a0_2 < 0
    · rw [decide_eq_false h1, decide_eq_false h2, decide_eq_false h3, decide_eq_false h4, decide_eq_false h5, decide_eq_true h6]; rfl
    by_cases h7 : a0_3 < 0
    · rw [decide_eq_false h1, decide_eq_false h2, decide_eq_false h3, decide_eq_false h4, decide_eq_false h5, decide_eq_false h6, decide_eq_true h7]; rfl
    by_cases h8 : a0_4 < 0
    · rw [decide_eq_false h1, decide_eq_false h2, decide_eq_false h3, decide_eq_false h4, decide_eq_false h5, decide_eq_false h6, decide_eq_false h7, decide_eq_true h8]; rfl
    have hp := fi_start a1 ⟨a0_0, a0_1, a0_2, a0_3, a0_4, a0_5⟩ h1 h2 h3 h4 h5 h6 h7 h8
    rw [decide_eq_false h1, decide_eq_false h2, decide_eq_false h3, decide_eq_false h4, decide_eq_false h5, decide_eq_false h6, decide_eq_false h7, decide_eq_false h8, hp]
    rfl
  exact calls_of_facts (v := .bool true) (vals := [.agg #[.int .i64 a0_0, .int .i64 a0_1, .int .i64 a0_2, .int .i64 a0_3, .int .i64 a0_4, .int .i64 a0_5], .int .i64 a1]) (fnSum_factsH fiGam_ok fiFit (by simp) hk).2 w
end Go.Ab
