/- A part of the proof of 'VecScale': lemmas, no statement of their own; no condition. -/
import Derived.Test.YtgccejhdohpojaaFxH
/- fixed's ratio is the rounded quotient. -/
namespace Go.Ab
open Go Go.Proofs
/-- A method of a flow, where a condition on its numbers holds. -/
def Sc {α ω : Type} [Args α] [Cod ω] (e : TypeId) (pre : α → Bool) (g : Bool → α → ω × Bool) : Summary := fun args cs => match args, cs with
  | .ptr 0 0 :: r, [.row e' [.val (.bool b)]] => match Nat.beq e e', Args.decs (α := α) r with
    | true, some a => .test (pre a) (.ret (.val (Cod.enc (g b a).1)) (row e (g b a).2)) .no
    | _, _ => .no
  | _, _ => .no
theorem Sc_sel {α ω : Type} [Args α] [Cod ω] {e : TypeId} {pre : α → Bool} {g : Bool → α → ω × Bool} {args : List AV} {cs cs' : List Con} {r : AV} (h : (Sc e pre g args cs).sel = some (r, cs')) :
    ∃ b a, pre a = true ∧ args = .ptr 0 0 :: Args.encs a ∧ cs = row e b ∧ r = .val (Cod.enc (g b a).1) ∧ cs' = row e (g b a).2 := by
  unfold Sc at h
  split at h
  · split at h
    · rename_i e' b _ _ a h1 h2
      simp only [STr.sel] at h
      cases hp : pre a with
      | false => rw [hp] at h; cases h
      | true =>
        rw [hp] at h
        simp only [cond_true, Option.some.injEq, Prod.mk.injEq] at h
        obtain ⟨rfl, rfl⟩ := h
        refine ⟨b, a, hp, by rw [Args.law _ _ h2], ?_, rfl, rfl⟩
        rw [Nat.eq_of_beq_eq_true h1]; rfl
    · simp [STr.sel] at h
  · simp [STr.sel] at h
theorem Sc_ok {α ω : Type} [Args α] [Cod ω] {P : Program} {E : Env} (hG : GamOk P E.gam) {f : FuncId} {e : TypeId} {pre : α → Bool} {g : Bool → α → ω × Bool} (d : Nat)
    (h : ∀ b a, pre a = true → fnSum P E [] d f (.ptr 0 0 :: Args.encs a) (row e b) = some (.val (Cod.enc (g b a).1), row e (g b a).2)) : SumOk P f (Sc e pre g) := by
  refine sumOk_of hG fun args cs r cs' hs => ?_
  obtain ⟨b, a, hp, rfl, rfl, rfl, rfl⟩ := Sc_sel hs
  exact ⟨by simp [row], d, h b a hp⟩

def iabs (a : Int) : Int := bif decide (a < 0) then 0 - a else a
def sgn (a : Int) : Int := bif decide (a < 0) then 1 else 0
def szV (p : Int × Unit) : Two U6 U6 := ⟨⟨bif decide (p.1 < 0) then IntKind.u64.wrap (IntKind.i64.wrap (0 - p.1)) else IntKind.u64.wrap p.1⟩, ⟨sgn p.1⟩⟩
def gvV (f : Bool) (p : Int × Bool × Unit) : Int × Bool := bif p.2.1 && num p.1 then (p.1, f) else (0, true)
def rnd (N z : Int) : Int := bif decide (N % z ≥ z - N % z) then N / z + 1 else N / z
def neg3 (a b c : Int) : Bool := xor (xor (decide (a < 0)) (decide (b < 0))) (decide (c < 0))
def fratio (f : Bool) (a b c : Int) : Int × Bool :=
  bif iabs c == 0 || decide (iabs a * iabs b / iabs c > 4611686018427387904) || decide (rnd (iabs a * iabs b) (iabs c) > 4611686018427387904) then (0, true)
  else (bif neg3 a b c then 0 - rnd (iabs a * iabs b) (iabs c) else rnd (iabs a * iabs b) (iabs c), f)
def num3 (p : Int × Int × Int × Unit) : Bool := num p.1 && (num p.2.1 && num p.2.2.1)
theorem iabs_num {a : Int} (h : num a = true) : 0 ≤ iabs a ∧ iabs a ≤ 4611686018427387904 := by
  rw [num_iff] at h
  unfold iabs
  by_cases h1 : a < 0
  · simp only [h1, decide_true, cond_true]; omega
  · simp only [h1, decide_false, cond_false]; omega
theorem szV_num {a : Int} (h : num a = true) : (szV (a, ())).a.n = iabs a ∧ (szV (a, ())).b.n = sgn a := by
  rw [num_iff] at h
  refine ⟨?_, rfl⟩
  have e1 : a < 0 → IntKind.u64.wrap (IntKind.i64.wrap (0 - a)) = 0 - a := fun h1 => by
    rw [wrap_i64_id (z := 0 - a) (by omega) (by omega), wrap_u64_id (z := 0 - a) (by omega) (by omega)]
  have e2 : ¬ a < 0 → IntKind.u64.wrap a = a := fun h1 => wrap_u64_id (by omega) (by omega)
  unfold szV iabs
  dsimp only
  by_cases h1 : a < 0
  · rw [e1 h1]; simp only [h1, decide_true, cond_true]
  · rw [e2 h1]; simp only [h1, decide_false, cond_false]
theorem ok175 : SumOk Try.prog 175 (S0 szV) := by
  refine S0_ok (E := { gam := [] }) GamOk.nil 20 fun a => ?_
  obtain ⟨a, _⟩ := a
  refine (sizeTree a).trans ?_
  unfold szV sgn
  dsimp only
  cases decide (a < 0) <;> rfl
theorem ok169 : SumOk Try.prog 169 (S 25 gvV) := by
  refine S_ok (E := { gam := [] }) GamOk.nil 20 fun f a => ?_
  obtain ⟨n, ok, _⟩ := a
  refine (giveTree f ok n).trans ?_
  unfold gvV num
  cases ok
  · rfl
  · by_cases h1 : n > 4611686018427387904
    · have e : decide (n ≤ 4611686018427387904) = false := by simp; omega
      simp only [h1, e, decide_true, Bool.not_true, cond_false, cond_true, Bool.false_and, Bool.and_false]; rfl
    · have e : decide (n ≤ 4611686018427387904) = true := by simp; omega
      by_cases h2 : n < -4611686018427387904
      · have e2 : decide (-4611686018427387904 ≤ n) = false := by simp; omega
        simp only [h1, h2, e, e2, decide_true, decide_false, Bool.not_true, cond_false, cond_true, Bool.and_false]; rfl
      · have e2 : decide (-4611686018427387904 ≤ n) = true := by simp; omega
        simp only [h1, h2, e, e2, decide_false, Bool.not_true, cond_false, cond_true, Bool.and_self]; rfl
theorem xor3 (a b c : Int) : (xorI (xorI (sgn a) (sgn b)) (sgn c) == 1) = neg3 a b c := by
  unfold sgn neg3
  cases decide (a < 0) <;> cases decide (b < 0) <;> cases decide (c < 0) <;> rfl
theorem gvV_ok {f : Bool} {m : Int} : gvV f (m, true, ()) = bif num m then (m, f) else (0, true) := by simp [gvV]
theorem gv_neg {f n : Bool} {q : Int} (h0 : 0 ≤ q) : gvV f (bif n then 0 - q else q, true, ()) = bif decide (q > 4611686018427387904) then (0, true) else (bif n then 0 - q else q, f) := by
  rw [gvV_ok]
  have : num (bif n then 0 - q else q) = !decide (q > 4611686018427387904) := by
    rw [Bool.eq_iff_iff, num_iff, Bool.not_eq_true', decide_eq_false_iff_not]
    cases n <;> simp only [cond_true, cond_false] <;> omega
  rw [this]
  cases decide (q > 4611686018427387904) <;> rfl
theorem ok166 : SumOk Try.prog 166 (Sc 25 num3 fun f (p : Int × Int × Int × Unit) => fratio f p.1 p.2.1 p.2.2.1) := by
  have hG : GamOk Try.prog [(176, S0c mulPre mulVal), (183, S0c divPre divVal), (175, S0 szV), (169, S 25 gvV)] := .cons ok176 (.cons ok183 (.cons ok175 (.cons ok169 .nil)))
  refine Sc_ok (E := { gam := [(176, S0c mulPre mulVal), (183, S0c divPre divVal), (175, S0 szV), (169, S 25 gvV)] }) hG 20 fun f p hp => ?_
  obtain ⟨a, b, c, _⟩ := p
  simp only [num3, Bool.and_eq_true] at hp
  obtain ⟨ha, hb, hc⟩ := hp
  refine (ratioTree mulPre mulVal divPre divVal szV gvV a b c f).trans ?_
  obtain ⟨a1, a2⟩ := szV_num ha
  obtain ⟨b1, b2⟩ := szV_num hb
  obtain ⟨c1, c2⟩ := szV_num hc
  obtain ⟨a3, a4⟩ := iabs_num ha
  obtain ⟨b3, b4⟩ := iabs_num hb
  obtain ⟨c3, c4⟩ := iabs_num hc
  dsimp only
  rw [a1, a2, b1, b2, c1, c2, xor3]
  have n0 : 0 ≤ iabs a * iabs b := Int.mul_nonneg a3 b3
  have n1 : iabs a * iabs b ≤ 4611686018427387904 * 4611686018427387904 := Int.le_trans (Int.mul_le_mul_of_nonneg_right a4 b3) (Int.mul_le_mul_of_nonneg_left b4 (by omega))
  have hm : mulPre (⟨iabs a⟩, ⟨iabs b⟩, ()) = true := by simp only [mulPre, word, Bool.and_eq_true, decide_eq_true_eq]; omega
  rw [hm, cond_true]
  unfold fratio
  generalize hx : iabs a * iabs b = N at *
  generalize iabs c = z at *
  simp only [mulVal, hx]
  have hbad : ∀ m : Int, gvV f (m, false, ()) = (0, true) := fun m => rfl
  by_cases hz : z = 0
  · subst hz
    simp only [BEq.rfl, cond_true, Bool.true_or, hbad]
    rfl
  have hz' : (z == 0) = false := by simp; exact hz
  have hzp : 0 < z := by omega
  rw [hz']
  simp only [cond_false, Bool.false_or]
  by_cases hh : N / 18446744073709551616 ≥ z
  · have : decide (N / z > 4611686018427387904) = true := by
      simp only [decide_eq_true_eq]
      have : 4611686018427387905 ≤ N / z := (Int.le_ediv_iff_mul_le hzp).2 (by omega)
      omega
    simp only [hh, this, decide_true, cond_true, Bool.true_or, hbad]
    rfl
  have hd : divPre (⟨N / 18446744073709551616⟩, ⟨N % 18446744073709551616⟩, ⟨z⟩, ()) = true := by
    simp only [divPre, decide_eq_true_eq]; omega
  have hv : divVal (⟨N / 18446744073709551616⟩, ⟨N % 18446744073709551616⟩, ⟨z⟩, ()) = ⟨⟨N / z⟩, ⟨N % z⟩⟩ := by
    unfold divVal
    simp only [show N / 18446744073709551616 * 18446744073709551616 + N % 18446744073709551616 = N by omega]
  simp only [hh, hd, hv, decide_false, cond_false, cond_true]
  have q0 : 0 ≤ N / z := Int.ediv_nonneg n0 (by omega)
  have r0 := Int.emod_nonneg N (b := z) (by omega)
  have r1 := Int.emod_lt_of_pos N hzp
  by_cases hq : N / z > 4611686018427387904
  · simp only [hq, decide_true, cond_true, Bool.true_or, hbad]
    rfl
  simp only [hq, decide_false, cond_false, Bool.false_or]
  rw [wrap_u64_id (z := z - N % z) (by omega) (by omega), wrap_u64_id (z := N / z + 1) (by omega) (by omega), wrap_i64_id (z := N / z + 1) (by omega) (by omega), wrap_i64_id (z := N / z) (by omega) (by omega),
    wrap_i64_id (z := 0 - (N / z + 1)) (by omega) (by omega), wrap_i64_id (z := 0 - N / z) (by omega) (by omega)]
  have fin : ∀ q : Int, 0 ≤ q → (bif neg3 a b c then some (AV.val (.int .i64 (gvV f (0 - q, true, ())).1), row 25 (gvV f (0 - q, true, ())).2) else some (AV.val (.int .i64 (gvV f (q, true, ())).1), row 25 (gvV f (q, true, ())).2)) =
      some (AV.val (Cod.enc (bif decide (q > 4611686018427387904) then ((0 : Int), true) else (bif neg3 a b c then 0 - q else q, f)).1), row 25 (bif decide (q > 4611686018427387904) then ((0 : Int), true) else (bif neg3 a b c then 0 - q else q, f)).2) := by
    intro q h0
    rw [← gv_neg h0]
    cases neg3 a b c <;> rfl
  rw [fin _ (by omega), fin _ (by omega)]
  unfold rnd
  cases decide (N % z ≥ z - N % z) <;> rfl
end Go.Ab
