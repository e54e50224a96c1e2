/- A part of the proofs: lemmas, no statement of their own; no condition. -/
import Derived.Test.YtccgjhdpiaglaaaGFxQ
/- The document's Sqrt and Norm. -/
namespace Go.Ab
open Go Go.Proofs
def bpre (r i h l : Int) : Bool := word h && (word l && decide (-1 ≤ i ∧ i ≤ 62 ∧ 0 ≤ r ∧ r + 2 ^ (i + 1).toNat ≤ 9223372036854775808))
def bR (r i h l : Int) : Int := isqB (i + 1).toNat r (h * 18446744073709551616 + l)
theorem notAb {t h l : Int} (hl : word l = true) : (!abV (⟨t * t / 18446744073709551616, t * t % 18446744073709551616⟩, ⟨h, l⟩, ())) = decide (t * t ≤ h * 18446744073709551616 + l) := by
  simp only [word, decide_eq_true_eq] at hl
  unfold abV
  dsimp only
  rw [Bool.eq_iff_iff, Bool.not_eq_true', Bool.or_eq_false_iff, Bool.and_eq_false_iff, decide_eq_true_eq, decide_eq_false_iff_not, decide_eq_false_iff_not, beq_eq_false_iff_ne]
  generalize t * t = N at *
  omega
theorem bStep {r i h l : Int} (hp : bpre r i h l = true) :
    (i ≥ 0 → ¬ i < 0 ∧ mulPre (⟨bitAt r i⟩, ⟨bitAt r i⟩, ()) = true ∧ IntKind.i64.wrap (i - 1) = i - 1 ∧
      ∀ r', r' = (bif !abV (⟨(timesVal (⟨bitAt r i⟩, ⟨bitAt r i⟩, ())).h, (timesVal (⟨bitAt r i⟩, ⟨bitAt r i⟩, ())).l⟩, ⟨h, l⟩, ()) then bitAt r i else r) →
      bpre r' (i - 1) h l = true ∧ bR r' (i - 1) h l = bR r i h l ∧ (i - 1 + 1).toNat < (i + 1).toNat) ∧
    (¬ i ≥ 0 → i = -1 ∧ bR r i h l = r) := by
  simp only [bpre, Bool.and_eq_true, decide_eq_true_eq] at hp
  obtain ⟨hh, hl, h1, h2, h3, h4⟩ := hp
  refine ⟨fun h0 => ?_, fun h0 => ?_⟩
  · obtain ⟨n, rfl⟩ : ∃ n : Nat, i = n := ⟨i.toNat, by omega⟩
    have e1 : ((n : Int) + 1).toNat = n + 1 := by omega
    have e2 : ((n : Int) - 1 + 1).toNat = n := by omega
    have hk := two_pow_pos n
    have hs := two_pow_succ n
    rw [e1] at h4
    have hb : bitAt r n = r + 2 ^ n := by
      have : shI 1 n = 1 * 2 ^ n % 18446744073709551616 := shI_eq 1 n (by omega)
      unfold bitAt
      rw [this, Int.one_mul, Int.emod_eq_of_lt (by omega) (by omega), wrap_u64_id (by omega) (by omega)]
    rw [hb]
    refine ⟨by omega, by simp only [mulPre, word, Bool.and_eq_true, decide_eq_true_eq]; omega, wrap_i64_id (by omega) (by omega), fun r' hr' => ?_⟩
    have hr' : r' = bif decide ((r + 2 ^ n) * (r + 2 ^ n) ≤ h * 18446744073709551616 + l) then r + 2 ^ n else r := by
      rw [hr', ← notAb hl]; rfl
    refine ⟨?_, ?_, by omega⟩
    · simp only [bpre, Bool.and_eq_true, decide_eq_true_eq, e2]
      refine ⟨hh, hl, by omega, by omega, ?_⟩
      cases hc : decide ((r + 2 ^ n) * (r + 2 ^ n) ≤ h * 18446744073709551616 + l) <;> rw [hc] at hr' <;> simp only [cond_true, cond_false] at hr' <;> subst hr' <;> omega
    · simp only [bR, e1, e2, isqB]
      subst hr'
      cases decide ((r + 2 ^ n) * (r + 2 ^ n) ≤ h * 18446744073709551616 + l) <;> rfl
  · have : i = -1 := by omega
    subst this
    exact ⟨rfl, rfl⟩
def sqpre : List Int → Bool
  | [r, i, _, h, l] => bpre r i h l
  | _ => false
def sqpost : List Int → List Int := sqPostV fun r i _ h l => bR r i h l
def nmpre : List Int → Bool
  | [r, i, _, _, _, h, l] => bpre r i h l
  | _ => false
def nmpost : List Int → List Int := nmPostV bR
theorem hcallS : ∀ β, CallOk Try.prog (callN Try.prog { gam := [(135, S0c mulPre timesVal), (137, S0 abV)] } 1 β) := callN_ok (.cons ok172 (.cons ok173 .nil)) 1
def sqHints : Hints := [(0, lrHint 40 sqSl sqFx sqG sqRows sqpre sqpost)]
def nmHints : Hints := [(0, lrHint 55 nmSl nmFx nmG nmRows nmpre nmpost)]
theorem sqFit : ∀ fn c, Try.prog.funcs[103]? = some fn → fn.body = some c → HFit Try.prog fn.ntmps sqHints c := by
  intro fn c hf hb
  rw [Try.func103] at hf
  cases hf
  have hc : Try.f103.body.getD .skip = c := by rw [hb]; rfl
  rw [sqTmps]
  have hL := sqBlocks
  rw [hc] at hL
  refine HFit.of fun p hp h hh s s' hs => ?_
  rw [hL] at hp
  simp only [List.mem_cons, List.not_mem_nil, or_false] at hp
  rcases hp with rfl | rfl
  · have : h = lrHint 40 sqSl sqFx sqG sqRows sqpre sqpost := (Option.some.inj hh).symm
    subst this
    refine lr_ok hcallS (F := 50) (wy := { quiet := isSum [(135, S0c mulPre timesVal), (137, S0 abV)] }) (fun xs => (xs.getD 1 0 + 1).toNat) ?_ s s' hs
    intro xs hlen hpre cc x lo hi step
    obtain ⟨r, i, a, hw, l, rfl⟩ : ∃ r i a h l, xs = [r, i, a, h, l] := by
      match xs, hlen with
      | [a, b, c, d, e], _ => exact ⟨a, b, c, d, e, rfl⟩
    have hr := sqRound mulPre timesVal abV r i a hw l cc x lo hi step
    unfold sqSt at hr
    rw [hr]
    obtain ⟨h1, h2⟩ := bStep (r := r) (i := i) (h := hw) (l := l) hpre
    by_cases hge : i ≥ 0
    · obtain ⟨k1, k2, k3, k4⟩ := h1 hge
      simp only [hge, k1, k2, k3, decide_true, decide_false, cond_true, cond_false]
      have key : ∀ r', bpre r' (i - 1) hw l = true ∧ bR r' (i - 1) hw l = bR r i hw l ∧ (i - 1 + 1).toNat < (i + 1).toNat →
          ∃ ys, ys.length = shLen sqSl + rowLen sqRows ∧ sqpre ys = true ∧ (ys.getD 1 0 + 1).toNat < ([r, i, a, hw, l].getD 1 0 + 1).toNat ∧ sqpost ys = sqpost [r, i, a, hw, l] ∧
            (some (Ex.normal, lrSt 40 sqSl sqFx sqG cc sqRows [r', i - 1, a, hw, l] x lo hi step) : Option (Ex × St)) = some (.normal, lrSt 40 sqSl sqFx sqG cc sqRows ys x lo hi step) := by
        intro r' hr'
        exact ⟨[r', i - 1, a, hw, l], rfl, hr'.1, by simpa only [List.getD_cons_succ, List.getD_cons_zero] using hr'.2.2, by simp only [sqpost, sqPostV, hr'.2.1], rfl⟩
      cases hc : !abV (⟨(timesVal (⟨bitAt r i⟩, ⟨bitAt r i⟩, ())).h, (timesVal (⟨bitAt r i⟩, ⟨bitAt r i⟩, ())).l⟩, ⟨hw, l⟩, ()) <;> rw [hc] at k4
      · exact .inl (key _ (k4 _ rfl))
      · exact .inl (key _ (k4 _ rfl))
    · obtain ⟨rfl, k2⟩ := h2 hge
      simp only [hge, decide_false, cond_false]
      refine .inr ?_
      simp only [sqpost, sqPostV, k2]
  · simp [findH, sqHints] at hh
theorem nmFit : ∀ fn c, Try.prog.funcs[70]? = some fn → fn.body = some c → HFit Try.prog fn.ntmps nmHints c := by
  intro fn c hf hb
  rw [Try.func70] at hf
  cases hf
  have hc : Try.f70.body.getD .skip = c := by rw [hb]; rfl
  rw [nmTmps]
  have hL := nmBlocks
  rw [hc] at hL
  refine HFit.of fun p hp h hh s s' hs => ?_
  rw [hL] at hp
  simp only [List.mem_cons, List.not_mem_nil, or_false] at hp
  rcases hp with rfl | rfl
  · have : h = lrHint 55 nmSl nmFx nmG nmRows nmpre nmpost := (Option.some.inj hh).symm
    subst this
    refine lr_ok hcallS (F := 50) (wy := { quiet := isSum [(135, S0c mulPre timesVal), (137, S0 abV)] }) (fun xs => (xs.getD 1 0 + 1).toNat) ?_ s s' hs
    intro xs hlen hpre cc x lo hi step
    obtain ⟨r, i, a, b, c, hw, l, rfl⟩ : ∃ r i a b c h l, xs = [r, i, a, b, c, h, l] := by
      match xs, hlen with
      | [a, b, c, d, e, f, g], _ => exact ⟨a, b, c, d, e, f, g, rfl⟩
    have hr := nmRound mulPre timesVal abV r i a b c hw l cc x lo hi step
    unfold nmSt at hr
    rw [hr]
    obtain ⟨h1, h2⟩ := bStep (r := r) (i := i) (h := hw) (l := l) hpre
    by_cases hge : i ≥ 0
    · obtain ⟨k1, k2, k3, k4⟩ := h1 hge
      simp only [hge, k1, k2, k3, decide_true, decide_false, cond_true, cond_false]
      have key : ∀ r', bpre r' (i - 1) hw l = true ∧ bR r' (i - 1) hw l = bR r i hw l ∧ (i - 1 + 1).toNat < (i + 1).toNat →
          ∃ ys, ys.length = shLen nmSl + rowLen nmRows ∧ nmpre ys = true ∧ (ys.getD 1 0 + 1).toNat < ([r, i, a, b, c, hw, l].getD 1 0 + 1).toNat ∧ nmpost ys = nmpost [r, i, a, b, c, hw, l] ∧
            (some (Ex.normal, lrSt 55 nmSl nmFx nmG cc nmRows [r', i - 1, a, b, c, hw, l] x lo hi step) : Option (Ex × St)) = some (.normal, lrSt 55 nmSl nmFx nmG cc nmRows ys x lo hi step) := by
        intro r' hr'
        exact ⟨[r', i - 1, a, b, c, hw, l], rfl, hr'.1, by simpa only [List.getD_cons_succ, List.getD_cons_zero] using hr'.2.2, by simp only [nmpost, nmPostV, hr'.2.1], rfl⟩
      cases hc : !abV (⟨(timesVal (⟨bitAt r i⟩, ⟨bitAt r i⟩, ())).h, (timesVal (⟨bitAt r i⟩, ⟨bitAt r i⟩, ())).l⟩, ⟨hw, l⟩, ()) <;> rw [hc] at k4
      · exact .inl (key _ (k4 _ rfl))
      · exact .inl (key _ (k4 _ rfl))
    · obtain ⟨rfl, k2⟩ := h2 hge
      simp only [hge, decide_false, cond_false]
      refine .inr ?_
      simp only [nmpost, nmPostV, k2]
  · simp [findH, nmHints] at hh
theorem S_okH {α ω : Type} [Args α] [Cod ω] {P : Program} {E : Env} (hG : GamOk P E.gam) {hB : Hints} {f : FuncId} {e : TypeId} {g : Bool → α → ω × Bool} (hfit : ∀ fn c, P.funcs[f]? = some fn → fn.body = some c → HFit P fn.ntmps hB c) (d : Nat)
    (h : ∀ b a, fnSum P E hB d f (.ptr 0 0 :: Args.encs a) (row e b) = some (.val (Cod.enc (g b a).1), row e (g b a).2)) : SumOk P f (S e g) := by
  refine sumOk_ofH hG hfit fun args cs r cs' hs => ?_
  obtain ⟨b, a, rfl, rfl, rfl, rfl⟩ := S_sel hs
  exact ⟨by simp [row], d, h b a⟩
theorem Sc_okH {α ω : Type} [Args α] [Cod ω] {P : Program} {E : Env} (hG : GamOk P E.gam) {hB : Hints} {f : FuncId} {e : TypeId} {pre : α → Bool} {g : Bool → α → ω × Bool} (hfit : ∀ fn c, P.funcs[f]? = some fn → fn.body = some c → HFit P fn.ntmps hB c) (d : Nat)
    (h : ∀ b a, pre a = true → fnSum P E hB d f (.ptr 0 0 :: Args.encs a) (row e b) = some (.val (Cod.enc (g b a).1), row e (g b a).2)) : SumOk P f (Sc e pre g) := by
  refine sumOk_ofH hG hfit fun args cs r cs' hs => ?_
  obtain ⟨b, a, hp, rfl, rfl, rfl, rfl⟩ := Sc_sel hs
  exact ⟨by simp [row], d, h b a hp⟩
theorem gvU_num {f : Bool} {q : Int} (h0 : 0 ≤ q) (h1 : q < 9223372036854775808) : gvU f (⟨q⟩, false, ()) = bif decide (q > 4611686018427387904) then (0, true) else (q, f) := by
  unfold gvU
  dsimp only
  rw [wrap_i64_id (z := q) (by omega) (by omega)]
  rfl
theorem ok139 : SumOk Try.prog 103 (S 27 (op1 fsqrt)) := by
  have hG : GamOk Try.prog [(135, S0c mulPre timesVal), (138, S 27 gvU)] := .cons ok172 (.cons ok174 .nil)
  refine S_okH (E := { gam := [(135, S0c mulPre timesVal), (138, S 27 gvU)] }) hG (hB := sqHints) sqFit 20 fun f p => ?_
  obtain ⟨a, _⟩ := p
  refine ((sqrt139 mulPre timesVal gvU sqpre (fun r i _ h l => bR r i h l) a f).trans (rtk_eq _ _ _)).trans ?_
  show _ = some (AV.val (Cod.enc (fsqrt f a).1), row 27 (fsqrt f a).2)
  unfold fsqrt
  cases hb : (f || !nums? [a]) with
  | true => rfl
  | false =>
    simp only [Bool.or_eq_false_iff, Bool.not_eq_false', nums?, Bool.and_true, num_iff] at hb
    obtain ⟨rfl, ha⟩ := hb
    by_cases h0 : a < 0
    · simp only [h0, decide_true, cond_true]; rfl
    · have hw : IntKind.u64.wrap a = a := wrap_u64_id (by omega) (by omega)
      have hm : mulPre (⟨a⟩, ⟨1099511627776⟩, ()) = true := by simp only [mulPre, word, Bool.and_eq_true, decide_eq_true_eq]; omega
      have hv : timesVal (⟨a⟩, ⟨1099511627776⟩, ()) = ⟨a * 1099511627776 / 18446744073709551616, a * 1099511627776 % 18446744073709551616⟩ := rfl
      obtain ⟨b0, b1⟩ := sqrt_bound (a := a) (by omega) (by omega)
      obtain ⟨i0, i1⟩ := isq_num b0 b1
      simp only [h0, hw, hm, hv, decide_false, cond_false, cond_true, Bool.not_false, Bool.not_true]
      have hpre : sqpre [0, 51, a, a * 1099511627776 / 18446744073709551616, a * 1099511627776 % 18446744073709551616] = true := by
        have e102 : (2 : Int) ^ 102 = 5070602400912917605986812821504 := by decide
        simp only [sqpre, bpre, word, Bool.and_eq_true, decide_eq_true_eq]
        refine ⟨by omega, by omega, by omega, by omega, by omega, by decide⟩
      have hR : bR 0 51 (a * 1099511627776 / 18446744073709551616) (a * 1099511627776 % 18446744073709551616) = isq (a * 1099511627776) := by
        unfold bR
        rw [show a * 1099511627776 / 18446744073709551616 * 18446744073709551616 + a * 1099511627776 % 18446744073709551616 = a * 1099511627776 by omega]
        exact isqB_52 b0 (Int.lt_of_lt_of_le b1 (by decide))
      rw [hpre, hR, cond_true, gvU_num i0 (by omega), show decide (isq (a * 1099511627776) > 4611686018427387904) = false by simp; omega]
      rfl
theorem ok142 : SumOk Try.prog 70 (S 27 (op3 fnorm)) := by
  have hG : GamOk Try.prog [(135, S0c mulPre timesVal), (138, S 27 gvU), (134, S0 adV), (136, S0 szU)] := .cons ok172 (.cons ok174 (.cons ok178 (.cons ok179 .nil)))
  refine S_okH (E := { gam := [(135, S0c mulPre timesVal), (138, S 27 gvU), (134, S0 adV), (136, S0 szU)] }) hG (hB := nmHints) nmFit 20 fun f p => ?_
  obtain ⟨a, b, c, _⟩ := p
  refine ((norm142 mulPre timesVal adV szU gvU nmpre bR a b c f).trans (rtk_eq _ _ _)).trans ?_
  show _ = some (AV.val (Cod.enc (fnorm f a b c).1), row 27 (fnorm f a b c).2)
  unfold fnorm
  cases hb : (f || !nums? [a, b, c]) with
  | true => rfl
  | false =>
    obtain ⟨rfl, ha, hb', hc⟩ := nums3 hb
    obtain ⟨a3, a4⟩ := iabs_num ha
    obtain ⟨b3, b4⟩ := iabs_num hb'
    obtain ⟨c3, c4⟩ := iabs_num hc
    obtain ⟨a5, a6⟩ := num_sq ha
    obtain ⟨b5, b6⟩ := num_sq hb'
    obtain ⟨c5, c6⟩ := num_sq hc
    have hm : ∀ x : Int, 0 ≤ x → x ≤ 4611686018427387904 → mulPre (⟨x⟩, ⟨x⟩, ()) = true := by
      intro x h0 h1
      simp only [mulPre, word, Bool.and_eq_true, decide_eq_true_eq]; omega
    have hok : ∀ N : Int, 0 ≤ N → N ≤ 63802943797675961899382738893456539648 → (Wd.mk (N / 18446744073709551616) (N % 18446744073709551616)).ok = true ∧ (Wd.mk (N / 18446744073709551616) (N % 18446744073709551616)).val = N := by
      intro N h0 h1
      simp only [Wd.ok, Wd.val, word, Bool.and_eq_true, decide_eq_true_eq]; omega
    have hsum : ∀ M N : Int, 0 ≤ M → 0 ≤ N → M + N ≤ 63802943797675961899382738893456539648 → adV (⟨M / 18446744073709551616, M % 18446744073709551616⟩, ⟨N / 18446744073709551616, N % 18446744073709551616⟩, ()) = ⟨(M + N) / 18446744073709551616, (M + N) % 18446744073709551616⟩ := by
      intro M N h0 h1 h2
      obtain ⟨k1, k2⟩ := adV_val (hok M h0 (by omega)).1 (hok N h1 (by omega)).1
      rw [(hok M h0 (by omega)).2, (hok N h1 (by omega)).2, Int.emod_eq_of_lt (a := M + N) (by omega) (by omega)] at k2
      generalize adV (⟨M / 18446744073709551616, M % 18446744073709551616⟩, ⟨N / 18446744073709551616, N % 18446744073709551616⟩, ()) = D at *
      obtain ⟨dh, dl⟩ := D
      simp only [Wd.ok, Wd.val, word, Bool.and_eq_true, decide_eq_true_eq] at k1 k2
      congr 1 <;> omega
    have ht : ∀ x : Int, timesVal (⟨x⟩, ⟨x⟩, ()) = ⟨x * x / 18446744073709551616, x * x % 18446744073709551616⟩ := fun x => rfl
    simp only [szU_num ha, szU_num hb', szU_num hc, hm _ a3 a4, hm _ b3 b4, hm _ c3 c4, ht, iabs_sq, Bool.not_false, Bool.not_true, cond_false, cond_true, hsum _ _ a5 b5 (by omega), hsum (a * a + b * b) (c * c) (by omega) c5 (by omega)]
    generalize hW : a * a + b * b + c * c = W at *
    have e126 : (2 : Int) ^ 126 = 85070591730234615865843651857942052864 := by decide
    have e63 : (2 : Int) ^ 63 = 9223372036854775808 := by decide
    obtain ⟨i0, i1, _, _⟩ := isq_spec (W := W) (by omega) (by omega)
    have hpre : nmpre [0, 62, a, b, c, W / 18446744073709551616, W % 18446744073709551616] = true := by
      simp only [nmpre, bpre, word, Bool.and_eq_true, decide_eq_true_eq]
      refine ⟨by omega, by omega, by omega, by omega, by omega, by decide⟩
    have hR : bR 0 62 (W / 18446744073709551616) (W % 18446744073709551616) = isq W := by
      unfold bR
      rw [show W / 18446744073709551616 * 18446744073709551616 + W % 18446744073709551616 = W by omega]
      rfl
    rw [hpre, hR, cond_true, gvU_num i0 (by omega)]
    cases decide (isq W > 4611686018427387904) <;> rfl
end Go.Ab
/- All operations of the numbers, in both packages; lengths and units of vectors. -/
namespace Go.Ab
open Go Go.Proofs
def opsF : Ops := { add := fadd, sub := fsub, mul := fmul, div := fdiv, mod := fmod, part := fpart, norm := fnorm, sqrt := fsqrt }
def gamN (o : Ops) : Gam := [(61, S 25 (op2 o.add)), (84, S 25 (op2 o.sub)), (62, S 25 (op2 o.mul)), (74, S 25 (op2 o.div)), (60, S 25 (op2 o.mod)), (59, S 25 (op3 o.part)), (69, S 25 (op3 o.norm)), (101, S 25 (op1 o.sqrt)), (71, S 25 failV),
  (64, S 27 (op2 o.add)), (86, S 27 (op2 o.sub)), (67, S 27 (op2 o.mul)), (76, S 27 (op2 o.div)), (66, S 27 (op2 o.mod)), (65, S 27 (op3 o.part)), (70, S 27 (op3 o.norm)), (103, S 27 (op1 o.sqrt)), (75, S 27 failV)]
theorem gamN_ok : GamOk Try.prog (gamN opsF) :=
  .cons ok124 (.cons ok127 (.cons ok121 (.cons ok135 (.cons ok56 (.cons ok116 (.cons ok141 (.cons ok137 (.cons ok115
  (.cons ok125 (.cons ok128 (.cons ok122 (.cons ok140 (.cons ok131 (.cons ok118 (.cons ok142 (.cons ok139 (.cons ok117 .nil)))))))))))))))))
end Go.Ab
/- Lengths and units of vectors, and how far two are apart. -/
namespace Go.Ab
open Go Go.Proofs
theorem pull2 {ω : Type} [Cod ω] {c g : Bool} {F : Bool → ω × Bool} {e : TypeId} : (bif c then some (AV.val (Cod.enc (F true).1), row e (F true).2) else some (AV.val (Cod.enc (F g).1), row e (F g).2)) =
    some (AV.val (Cod.enc (F (bif c then true else g)).1), row e (F (bif c then true else g)).2) := by cases c <;> rfl
def vnorm (o : Ops) (b : Bool) (p : V3 × Unit) : Int × Bool := o.norm b p.1.x p.1.y p.1.z
def vunit0 (o : Ops) (u : V3) (n : Int) (f : Bool) : V3 × Bool := each3 f (fun b => o.div b u.x n) (fun b => o.div b u.y n) (fun b => o.div b u.z n)
def vunitN (o : Ops) (u : V3) (n : Int) (f : Bool) : V3 × Bool := done3 (vunit0 o u n f)
def vunit (o : Ops) (b : Bool) (p : V3 × Unit) : V3 × Bool :=
  vunitN o p.1 (vnorm o b p).1 (bif decide ((vnorm o b p).1 < 1048576) then true else (vnorm o b p).2)
theorem norm66 (o : Ops) (b : Bool) (u : V3) : fnSum Try.prog { gam := gamN o } [] 20 19 [.ptr 0 0, .val (Cod.enc u)] (row 25 b) = some (.val (Cod.enc (vnorm o b (u, ())).1), row 25 (vnorm o b (u, ())).2) := by kernel_rfl
theorem norm67 (o : Ops) (b : Bool) (u : V3) : fnSum Try.prog { gam := gamN o } [] 20 20 [.ptr 0 0, .val (Cod.enc u)] (row 27 b) = some (.val (Cod.enc (vnorm o b (u, ())).1), row 27 (vnorm o b (u, ())).2) := by kernel_rfl
def unitT (o : Ops) (e : TypeId) (u : V3) (n : Int) (f : Bool) : Option (AV × List Con) :=
  bif (vunitN o u n f).2 then some (.val (Cod.enc V3.zero), row e (vunitN o u n f).2) else some (.val (Cod.enc (vunit0 o u n f).1), row e (vunitN o u n f).2)
theorem unitT_eq (o : Ops) (e : TypeId) (u : V3) (n : Int) (f : Bool) : unitT o e u n f = some (.val (Cod.enc (vunitN o u n f).1), row e (vunitN o u n f).2) := pull
theorem unit68 (o : Ops) (b : Bool) (u : V3) : fnSum Try.prog { gam := gamN o } [] 20 21 [.ptr 0 0, .val (Cod.enc u)] (row 25 b) = some (.val (Cod.enc (vunit o b (u, ())).1), row 25 (vunit o b (u, ())).2) := by
  refine Eq.trans (?_ : _ = bif decide ((vnorm o b (u, ())).1 < 1048576) then unitT o 25 u (vnorm o b (u, ())).1 true else unitT o 25 u (vnorm o b (u, ())).1 (vnorm o b (u, ())).2) ?_
  · kernel_rfl
  · rw [unitT_eq, unitT_eq]; exact pull2
theorem unit69 (o : Ops) (b : Bool) (u : V3) : fnSum Try.prog { gam := gamN o } [] 20 22 [.ptr 0 0, .val (Cod.enc u)] (row 27 b) = some (.val (Cod.enc (vunit o b (u, ())).1), row 27 (vunit o b (u, ())).2) := by
  refine Eq.trans (?_ : _ = bif decide ((vnorm o b (u, ())).1 < 1048576) then unitT o 27 u (vnorm o b (u, ())).1 true else unitT o 27 u (vnorm o b (u, ())).1 (vnorm o b (u, ())).2) ?_
  · kernel_rfl
  · rw [unitT_eq, unitT_eq]; exact pull2
theorem ok66 : SumOk Try.prog 19 (S 25 (vnorm opsF)) := S_ok gamN_ok 20 fun b a => norm66 opsF b a.1
theorem ok67 : SumOk Try.prog 20 (S 27 (vnorm opsF)) := S_ok gamN_ok 20 fun b a => norm67 opsF b a.1
theorem ok68 : SumOk Try.prog 21 (S 25 (vunit opsF)) := S_ok gamN_ok 20 fun b a => unit68 opsF b a.1
theorem ok69 : SumOk Try.prog 22 (S 27 (vunit opsF)) := S_ok gamN_ok 20 fun b a => unit69 opsF b a.1
/-- The operations of vectors, as variables. -/
structure VOps where
  add : Bool → V3 × V3 × Unit → V3 × Bool
  sub : Bool → V3 × V3 × Unit → V3 × Bool
  scale : Bool → V3 × Int × Unit → V3 × Bool
  cross : Bool → V3 × V3 × Unit → V3 × Bool
  dot : Bool → V3 × V3 × Unit → Int × Bool
  norm : Bool → V3 × Unit → Int × Bool
  unit : Bool → V3 × Unit → V3 × Bool
def gamV (v : VOps) : Gam := [(90, S 25 v.add), (91, S 25 v.sub), (89, S 25 v.scale), (68, S 25 v.cross), (78, S 25 v.dot), (19, S 25 v.norm), (21, S 25 v.unit),
  (95, S 27 v.add), (94, S 27 v.sub), (93, S 27 v.scale), (79, S 27 v.cross), (80, S 27 v.dot), (20, S 27 v.norm), (22, S 27 v.unit)]
def vopsF : VOps := { add := vop fadd, sub := vop fsub, scale := vscale fmul, cross := vcross opsM, dot := vdotP opsM, norm := vnorm opsF, unit := vunit opsF }
theorem ok50 : SumOk Try.prog 90 (S 25 (vop fadd)) := S_ok gamA_ok 20 fun b a => add50 ops0 b a.1 a.2.1
theorem ok51 : SumOk Try.prog 95 (S 27 (vop fadd)) := S_ok gamA_ok 20 fun b a => add51 ops0 b a.1 a.2.1
theorem ok52 : SumOk Try.prog 91 (S 25 (vop fsub)) := S_ok gamA_ok 20 fun b a => sub52 ops0 b a.1 a.2.1
theorem ok53 : SumOk Try.prog 94 (S 27 (vop fsub)) := S_ok gamA_ok 20 fun b a => sub53 ops0 b a.1 a.2.1
theorem gamV_ok : GamOk Try.prog (gamV vopsF) :=
  .cons ok50 (.cons ok52 (.cons ok44 (.cons ok48 (.cons ok46 (.cons ok66 (.cons ok68 (.cons ok51 (.cons ok53 (.cons ok45 (.cons ok49 (.cons ok47 (.cons ok67 (.cons ok69 .nil)))))))))))))
def vpartsAt (v : VOps) (x y : V3) (b : Bool) : Two Int Int × Bool :=
  (⟨(v.norm (v.cross b (x, y, ())).2 ((v.cross b (x, y, ())).1, ())).1, (v.dot (v.norm (v.cross b (x, y, ())).2 ((v.cross b (x, y, ())).1, ())).2 (x, y, ())).1⟩,
   (v.dot (v.norm (v.cross b (x, y, ())).2 ((v.cross b (x, y, ())).1, ())).2 (x, y, ())).2)
def vparts0 (v : VOps) (b : Bool) (p : V3 × V3 × Unit) : Two Int Int × Bool :=
  vpartsAt v (v.unit b (p.1, ())).1 (v.unit (v.unit b (p.1, ())).2 (p.2.1, ())).1 (v.unit (v.unit b (p.1, ())).2 (p.2.1, ())).2
def vparts (v : VOps) (b : Bool) (p : V3 × V3 × Unit) : Two Int Int × Bool := (bif (vparts0 v b p).2 then ⟨0, 0⟩ else (vparts0 v b p).1, (vparts0 v b p).2)
theorem parts74 (v : VOps) (b : Bool) (x y : V3) : fnSum Try.prog { gam := gamV v } [] 20 23 [.ptr 0 0, .val (Cod.enc x), .val (Cod.enc y)] (row 25 b) = some (.val (Cod.enc (vparts v b (x, y, ())).1), row 25 (vparts v b (x, y, ())).2) := by
  refine Eq.trans (?_ : _ = bif (vparts0 v b (x, y, ())).2 then some (.val (Cod.enc (Two.mk (0 : Int) (0 : Int))), row 25 (vparts0 v b (x, y, ())).2) else some (.val (Cod.enc (vparts0 v b (x, y, ())).1), row 25 (vparts0 v b (x, y, ())).2)) pull
  kernel_rfl
theorem parts75 (v : VOps) (b : Bool) (x y : V3) : fnSum Try.prog { gam := gamV v } [] 20 24 [.ptr 0 0, .val (Cod.enc x), .val (Cod.enc y)] (row 27 b) = some (.val (Cod.enc (vparts v b (x, y, ())).1), row 27 (vparts v b (x, y, ())).2) := by
  refine Eq.trans (?_ : _ = bif (vparts0 v b (x, y, ())).2 then some (.val (Cod.enc (Two.mk (0 : Int) (0 : Int))), row 27 (vparts0 v b (x, y, ())).2) else some (.val (Cod.enc (vparts0 v b (x, y, ())).1), row 27 (vparts0 v b (x, y, ())).2)) pull
  kernel_rfl
theorem ok74 : SumOk Try.prog 23 (S 25 (vparts vopsF)) := S_ok gamV_ok 20 fun b a => parts74 vopsF b a.1 a.2.1
theorem ok75 : SumOk Try.prog 24 (S 27 (vparts vopsF)) := S_ok gamV_ok 20 fun b a => parts75 vopsF b a.1 a.2.1
end Go.Ab
/- Matrices: what both packages compute. -/
namespace Go.Ab
open Go Go.Proofs
structure R6 where
  a : Int
  b : Int
  c : Int
  d : Int
  e : Int
  f : Int
instance : Cod R6 where
  enc r := .agg #[.int .i64 r.a, .int .i64 r.b, .int .i64 r.c, .int .i64 r.d, .int .i64 r.e, .int .i64 r.f]
  dec v := match v with | .agg ⟨[.int .i64 a, .int .i64 b, .int .i64 c, .int .i64 d, .int .i64 e, .int .i64 f]⟩ => some ⟨a, b, c, d, e, f⟩ | _ => none
  law v a h := by split at h <;> simp_all; subst h; simp
structure M6 where
  a : R6
  b : R6
  c : R6
  d : R6
  e : R6
  f : R6
def R6.cells (r : R6) : List Value := [.int .i64 r.a, .int .i64 r.b, .int .i64 r.c, .int .i64 r.d, .int .i64 r.e, .int .i64 r.f]
def six : List Value → Option (R6 × List Value)
  | .int .i64 a :: .int .i64 b :: .int .i64 c :: .int .i64 d :: .int .i64 e :: .int .i64 f :: r => some (⟨a, b, c, d, e, f⟩, r)
  | _ => none
theorem six_law {l : List Value} {x : R6} {r : List Value} (h : six l = some (x, r)) : l = x.cells ++ r := by
  unfold six at h
  split at h
  · cases h; rfl
  · cases h
instance : Cod M6 where
  enc m := .agg ⟨m.a.cells ++ (m.b.cells ++ (m.c.cells ++ (m.d.cells ++ (m.e.cells ++ (m.f.cells ++ [])))))⟩
  dec v := match v with
    | .agg ⟨l⟩ => match six l with
      | some (a, l) => match six l with
        | some (b, l) => match six l with
          | some (c, l) => match six l with
            | some (d, l) => match six l with
              | some (e, l) => match six l with
                | some (f, []) => some ⟨a, b, c, d, e, f⟩
                | _ => none
              | none => none
            | none => none
          | none => none
        | none => none
      | none => none
    | _ => none
  law v m h := by
    split at h
    · rename_i l
      split at h
      · rename_i a l1 h1
        split at h
        · rename_i b l2 h2
          split at h
          · rename_i c l3 h3
            split at h
            · rename_i d l4 h4
              split at h
              · rename_i e l5 h5
                split at h
                · rename_i f h6
                  cases h
                  rw [six_law h1, six_law h2, six_law h3, six_law h4, six_law h5, six_law h6]
                · cases h
              · cases h
            · cases h
          · cases h
        · cases h
      · cases h
    · cases h
def R6.at (r : R6) : Nat → Int
  | 0 => r.a
  | 1 => r.b
  | 2 => r.c
  | 3 => r.d
  | 4 => r.e
  | 5 => r.f
  | _ => 0
abbrev Mx := Nat → Nat → Int
def M6.row (m : M6) : Nat → R6
  | 0 => m.a
  | 1 => m.b
  | 2 => m.c
  | 3 => m.d
  | 4 => m.e
  | _ => m.f
def M6.at (m : M6) : Mx := fun i j => (m.row i).at j
def R6.of (v : Nat → Int) : R6 := ⟨v 0, v 1, v 2, v 3, v 4, v 5⟩
def M6.of (L : Mx) : M6 := ⟨R6.of (L 0), R6.of (L 1), R6.of (L 2), R6.of (L 3), R6.of (L 4), R6.of (L 5)⟩
def mx0 : Mx := fun _ _ => 0
def M6.zero : M6 := M6.of mx0
def R6.zero : R6 := R6.of fun _ => 0
def setM (L : Mx) (i j : Nat) (v : Int) : Mx := fun a b => bif Nat.beq a i && Nat.beq b j then v else L a b
def setR (L : Nat → Int) (i : Nat) (v : Int) : Nat → Int := fun a => bif Nat.beq a i then v else L a
/-- s, less the products of two rows' first k numbers. -/
def lessN (o : Ops) (a b : Nat → Int) (s : Int × Bool) : Nat → Int × Bool
  | 0 => s
  | k + 1 =>
    let r := lessN o a b s k
    let m := o.mul r.2 (a k) (b k)
    o.sub m.2 r.1 m.1
def rootCols (o : Ops) (m : Mx) (i : Nat) (st : Mx × Bool) : Nat → Mx × Bool
  | 0 => st
  | j + 1 =>
    let r := rootCols o m i st j
    let s := lessN o (r.1 i) (r.1 j) (o.add r.2 (m i j) 0) j
    let d := o.div s.2 s.1 (r.1 j j)
    (setM r.1 i j d.1, d.2)
def rootRow (o : Ops) (m : Mx) (i : Nat) (st : Mx × Bool) : Mx × Bool :=
  let r := rootCols o m i st i
  let s := lessN o (r.1 i) (r.1 i) (o.add r.2 (m i i) 0) i
  let q := o.sqrt (bif decide (s.1 < 1) then true else s.2) s.1
  (setM r.1 i i q.1, q.2)
def rootRows (o : Ops) (m : Mx) (b : Bool) : Nat → Mx × Bool
  | 0 => (mx0, b)
  | i + 1 => rootRow o m i (rootRows o m b i)
def okN (n : Int) : Bool := decide (1 ≤ n) && decide (n ≤ 6)
def rootF (o : Ops) (b : Bool) (m : M6) (k : Nat) : M6 × Bool := (bif (rootRows o m.at b k).2 then M6.zero else M6.of (rootRows o m.at b k).1, (rootRows o m.at b k).2)
def matRoot (o : Ops) (b : Bool) (p : M6 × Int × Unit) : M6 × Bool := bif okN p.2.1 then (bif b then (M6.zero, b) else rootF o b p.1 p.2.1.toNat) else (M6.zero, true)
def envM (o : Ops) : Env := { gam := gamN o, ways := [(81, [71]), (102, [75])] }
end Go.Ab
/- Roots: trees of both packages, for each count. -/
namespace Go.Ab
open Go Go.Proofs
def rootT (o : Ops) (e : TypeId) (b : Bool) (m : M6) (k : Nat) : Option (AV × List Con) :=
  bif !!b then some (.val (Cod.enc M6.zero), row e b) else bif (rootRows o m.at b k).2 then some (.val (Cod.enc M6.zero), row e (rootRows o m.at b k).2) else some (.val (Cod.enc (M6.of (rootRows o m.at b k).1)), row e (rootRows o m.at b k).2)
theorem root64_1 (o : Ops) (b : Bool) (m : M6) : fnSum Try.prog (envM o) [] 20 81 [.ptr 0 0, .val (Cod.enc m), .val (.int .i64 1)] (row 25 b) = rootT o 25 b m 1 := by kernel_rfl
theorem root64_2 (o : Ops) (b : Bool) (m : M6) : fnSum Try.prog (envM o) [] 20 81 [.ptr 0 0, .val (Cod.enc m), .val (.int .i64 2)] (row 25 b) = rootT o 25 b m 2 := by kernel_rfl
theorem root64_3 (o : Ops) (b : Bool) (m : M6) : fnSum Try.prog (envM o) [] 20 81 [.ptr 0 0, .val (Cod.enc m), .val (.int .i64 3)] (row 25 b) = rootT o 25 b m 3 := by kernel_rfl
theorem root64_4 (o : Ops) (b : Bool) (m : M6) : fnSum Try.prog (envM o) [] 20 81 [.ptr 0 0, .val (Cod.enc m), .val (.int .i64 4)] (row 25 b) = rootT o 25 b m 4 := by kernel_rfl
theorem root64_5 (o : Ops) (b : Bool) (m : M6) : fnSum Try.prog (envM o) [] 20 81 [.ptr 0 0, .val (Cod.enc m), .val (.int .i64 5)] (row 25 b) = rootT o 25 b m 5 := by kernel_rfl
theorem root64_6 (o : Ops) (b : Bool) (m : M6) : fnSum Try.prog (envM o) [] 20 81 [.ptr 0 0, .val (Cod.enc m), .val (.int .i64 6)] (row 25 b) = rootT o 25 b m 6 := by kernel_rfl
theorem root65_1 (o : Ops) (b : Bool) (m : M6) : fnSum Try.prog (envM o) [] 20 102 [.ptr 0 0, .val (Cod.enc m), .val (.int .i64 1)] (row 27 b) = rootT o 27 b m 1 := by kernel_rfl
theorem root65_2 (o : Ops) (b : Bool) (m : M6) : fnSum Try.prog (envM o) [] 20 102 [.ptr 0 0, .val (Cod.enc m), .val (.int .i64 2)] (row 27 b) = rootT o 27 b m 2 := by kernel_rfl
theorem root65_3 (o : Ops) (b : Bool) (m : M6) : fnSum Try.prog (envM o) [] 20 102 [.ptr 0 0, .val (Cod.enc m), .val (.int .i64 3)] (row 27 b) = rootT o 27 b m 3 := by kernel_rfl
theorem root65_4 (o : Ops) (b : Bool) (m : M6) : fnSum Try.prog (envM o) [] 20 102 [.ptr 0 0, .val (Cod.enc m), .val (.int .i64 4)] (row 27 b) = rootT o 27 b m 4 := by kernel_rfl
theorem root65_5 (o : Ops) (b : Bool) (m : M6) : fnSum Try.prog (envM o) [] 20 102 [.ptr 0 0, .val (Cod.enc m), .val (.int .i64 5)] (row 27 b) = rootT o 27 b m 5 := by kernel_rfl
theorem root65_6 (o : Ops) (b : Bool) (m : M6) : fnSum Try.prog (envM o) [] 20 102 [.ptr 0 0, .val (Cod.enc m), .val (.int .i64 6)] (row 27 b) = rootT o 27 b m 6 := by kernel_rfl
end Go.Ab
/- What is solved; squares; what a matrix makes of a row: what both packages compute. -/
namespace Go.Ab
open Go Go.Proofs
def fwdN (o : Ops) (L : Mx) (y : Nat → Int) (b : Bool) : Nat → (Nat → Int) × Bool
  | 0 => (fun _ => 0, b)
  | i + 1 =>
    let r := fwdN o L y b i
    let s := lessN o (L i) r.1 (o.add r.2 (y i) 0) i
    let d := o.div s.2 s.1 (L i i)
    (setR r.1 i d.1, d.2)
def lessB (o : Ops) (L : Mx) (x : Nat → Int) (i : Nat) (s : Int × Bool) : Nat → Int × Bool
  | 0 => s
  | c + 1 =>
    let r := lessB o L x i s c
    let m := o.mul r.2 (L (i + 1 + c) i) (x (i + 1 + c))
    o.sub m.2 r.1 m.1
def bwdN (o : Ops) (L : Mx) (n : Nat) (st : (Nat → Int) × Bool) : Nat → (Nat → Int) × Bool
  | 0 => st
  | t + 1 =>
    let r := bwdN o L n st t
    let s := lessB o L r.1 (n - 1 - t) (r.1 (n - 1 - t), r.2) t
    let d := o.div s.2 s.1 (L (n - 1 - t) (n - 1 - t))
    (setR r.1 (n - 1 - t) d.1, d.2)
def solve0 (o : Ops) (b : Bool) (l : M6) (y : R6) (n : Nat) : (Nat → Int) × Bool := bwdN o l.at n (fwdN o l.at y.at b n) n
def sumN (o : Ops) (a b : Nat → Int) (f : Bool) : Nat → Int × Bool
  | 0 => (0, f)
  | k + 1 =>
    let r := sumN o a b f k
    let m := o.mul r.2 (a k) (b k)
    o.add m.2 r.1 m.1
def appN (o : Ops) (m : Mx) (b : Nat → Int) (n : Nat) (f : Bool) : Nat → (Nat → Int) × Bool
  | 0 => (fun _ => 0, f)
  | i + 1 =>
    let r := appN o m b n f i
    let s := sumN o (m i) b r.2 n
    (setR r.1 i s.1, s.2)
def sqRowN (o : Ops) (l : Mx) (n i : Nat) (st : Mx × Bool) : Nat → Mx × Bool
  | 0 => st
  | j + 1 =>
    let r := sqRowN o l n i st j
    let s := sumN o (l i) (l j) r.2 n
    (setM r.1 i j s.1, s.2)
def sqN (o : Ops) (l : Mx) (n : Nat) (f : Bool) : Nat → Mx × Bool
  | 0 => (mx0, f)
  | i + 1 => sqRowN o l n i (sqN o l n f i) n
def doneM (r : Mx × Bool) : M6 × Bool := (bif r.2 then M6.zero else M6.of r.1, r.2)
def doneR (r : (Nat → Int) × Bool) : R6 × Bool := (bif r.2 then R6.zero else R6.of r.1, r.2)
def byN {ω : Type} (z : ω) (n : Int) (b : Bool) (F : Nat → ω × Bool) : ω × Bool := bif okN n then (bif b then (z, b) else F n.toNat) else (z, true)
def matSolve (o : Ops) (b : Bool) (p : M6 × R6 × Int × Unit) : R6 × Bool := byN R6.zero p.2.2.1 b fun n => doneR (solve0 o b p.1 p.2.1 n)
def matSquare (o : Ops) (b : Bool) (p : M6 × Int × Unit) : M6 × Bool := byN M6.zero p.2.1 b fun n => doneM (sqN o p.1.at n b n)
def matApply (o : Ops) (b : Bool) (p : M6 × R6 × Int × Unit) : R6 × Bool := byN R6.zero p.2.2.1 b fun n => doneR (appN o p.1.at p.2.1.at n b n)
def doneMT (e : TypeId) (r : Mx × Bool) : Option (AV × List Con) := bif r.2 then some (.val (Cod.enc M6.zero), row e r.2) else some (.val (Cod.enc (M6.of r.1)), row e r.2)
def doneRT (e : TypeId) (r : (Nat → Int) × Bool) : Option (AV × List Con) := bif r.2 then some (.val (Cod.enc R6.zero), row e r.2) else some (.val (Cod.enc (R6.of r.1)), row e r.2)
def solveT (o : Ops) (e : TypeId) (b : Bool) (l : M6) (y : R6) (k : Nat) : Option (AV × List Con) := bif !!b then some (.val (Cod.enc R6.zero), row e b) else doneRT e (solve0 o b l y k)
def squareT (o : Ops) (e : TypeId) (b : Bool) (l : M6) (k : Nat) : Option (AV × List Con) := bif !!b then some (.val (Cod.enc M6.zero), row e b) else doneMT e (sqN o l.at k b k)
def applyT (o : Ops) (e : TypeId) (b : Bool) (l : M6) (y : R6) (k : Nat) : Option (AV × List Con) := bif !!b then some (.val (Cod.enc R6.zero), row e b) else doneRT e (appN o l.at y.at k b k)
end Go.Ab
/- A count that is none; how the counts are put together. -/
namespace Go.Ab
open Go Go.Proofs
theorem bool_notnot (b : Bool) : (!!b) = b := by cases b <;> rfl
theorem S_join {α ω : Type} [Args α] [Cod ω] {P : Program} {f : FuncId} {e : TypeId} {g : Bool → α → ω × Bool} (h : ∀ a, ∃ pre : α → Bool, pre a = true ∧ SumOk P f (Sc e pre g)) : SumOk P f (S e g) := by
  intro args cs r cs' hs
  unfold S at hs
  split at hs
  · rename_i r0 e' b
    split at hs
    · rename_i a h1 h2
      obtain ⟨pre, h3, h4⟩ := h a
      refine h4 _ _ _ _ ?_
      unfold Sc
      simp only [h1, h2, STr.sel, h3, cond_true]
      simpa only [STr.sel] using hs
    · simp [STr.sel] at hs
  · simp [STr.sel] at hs
/-- A hint that has no word. -/
def mute : Hints := [(0, fun _ => .no)]
theorem muteFit {P : Program} {f : FuncId} : ∀ fn c, P.funcs[f]? = some fn → fn.body = some c → HFit P fn.ntmps mute c := by
  intro fn c _ _
  refine HFit.of fun p _ h hh s s' hs => ?_
  unfold mute at hh
  simp only [findH] at hh
  split at hh
  · cases hh
    cases hs
  · cases hh
def badT (e : TypeId) (z : Value) (b : Bool) (n : Int) : Option (AV × List Con) :=
  bif decide (n < 1) then some (.val z, row e true) else bif decide (n > 6) then some (.val z, row e true) else bif !!b then some (.val z, row e b) else none
theorem badT_eq {e : TypeId} {z : Value} {b : Bool} {n : Int} (h : okN n = false) : badT e z b n = some (.val z, row e true) := by
  unfold okN at h
  unfold badT
  by_cases h1 : n < 1
  · rw [decide_eq_true h1]; rfl
  · rw [decide_eq_false h1, cond_false]
    rw [decide_eq_true (p := 1 ≤ n) (by omega), Bool.true_and, decide_eq_false_iff_not] at h
    rw [decide_eq_true (p := n > 6) (by omega)]
    rfl
theorem okN_cases {n : Int} (h : okN n = true) : n = 1 ∨ n = 2 ∨ n = 3 ∨ n = 4 ∨ n = 5 ∨ n = 6 := by
  unfold okN at h
  simp only [Bool.and_eq_true, decide_eq_true_eq] at h
  omega
theorem doneMT_eq (e : TypeId) (r : Mx × Bool) : doneMT e r = some (.val (Cod.enc (doneM r).1), row e (doneM r).2) := pull
theorem doneRT_eq (e : TypeId) (r : (Nat → Int) × Bool) : doneRT e r = some (.val (Cod.enc (doneR r).1), row e (doneR r).2) := pull
theorem byN_ok {ω : Type} (z : ω) {n : Int} (b : Bool) (F : Nat → ω × Bool) (h : okN n = true) : byN z n b F = bif b then (z, b) else F n.toNat := by unfold byN; rw [h]; rfl
theorem byN_no {ω : Type} (z : ω) {n : Int} (b : Bool) (F : Nat → ω × Bool) (h : okN n = false) : byN z n b F = (z, true) := by unfold byN; rw [h]; rfl
theorem endT_eq {ω : Type} [Cod ω] (e : TypeId) (z : ω) (b : Bool) (r : ω × Bool) : (bif !!b then some (AV.val (Cod.enc z), row e b) else some (AV.val (Cod.enc r.1), row e r.2)) = some (AV.val (Cod.enc (bif b then (z, b) else r).1), row e (bif b then (z, b) else r).2) := by
  cases b <;> rfl
end Go.Ab
/- root: the summaries of both packages. -/
namespace Go.Ab
open Go Go.Proofs
def matRootN (o : Ops) (b : Bool) (p : M6 × Int × Unit) : M6 × Bool := byN M6.zero p.2.1 b fun n => doneM (rootRows o p.1.at b n)
theorem root64_bad (o : Ops) (b : Bool) (m : M6) (n : Int) : fnSum Try.prog (envM o) mute 20 81 [.ptr 0 0, .val (Cod.enc m), .val (.int .i64 n)] (row 25 b) = badT 25 (Cod.enc M6.zero) b n := by kernel_rfl
theorem root65_bad (o : Ops) (b : Bool) (m : M6) (n : Int) : fnSum Try.prog (envM o) mute 20 102 [.ptr 0 0, .val (Cod.enc m), .val (.int .i64 n)] (row 27 b) = badT 27 (Cod.enc M6.zero) b n := by kernel_rfl
theorem ok64 : SumOk Try.prog 81 (S 25 (matRootN opsF)) := by
  refine S_join fun (a : M6 × Int × Unit) => ?_
  cases hn : okN a.2.1 with
  | false =>
    refine ⟨fun p => !okN p.2.1, by simp only [hn, Bool.not_false], ?_⟩
    refine Sc_okH (E := envM opsF) gamN_ok (hB := mute) muteFit 20 fun b p hp => ?_
    obtain ⟨m, n, _⟩ := p
    have hp' : okN n = false := by simpa using hp
    refine ((root64_bad opsF b m n).trans (badT_eq hp')).trans ?_
    show _ = some (AV.val (Cod.enc (byN M6.zero n b _).1), row 25 (byN M6.zero n b _).2)
    rw [byN_no _ _ _ hp']
  | true =>
    rcases okN_cases hn with h | h | h | h | h | h
    · refine ⟨fun p => decide (p.2.1 = 1), by simp only [h, decide_true], ?_⟩
      refine Sc_ok (E := envM opsF) gamN_ok 20 fun b p hp => ?_
      obtain ⟨m, n, _⟩ := p
      have hp' : n = 1 := by simpa using hp
      subst hp'
      refine (root64_1 opsF b m).trans ?_
      unfold rootT
      exact (congrArg (fun x => bif !!b then some (AV.val (Cod.enc M6.zero), row 25 b) else x) (doneMT_eq 25 (rootRows opsF m.at b 1))).trans (endT_eq 25 M6.zero b (doneM (rootRows opsF m.at b 1)))
    · refine ⟨fun p => decide (p.2.1 = 2), by simp only [h, decide_true], ?_⟩
      refine Sc_ok (E := envM opsF) gamN_ok 20 fun b p hp => ?_
      obtain ⟨m, n, _⟩ := p
      have hp' : n = 2 := by simpa using hp
      subst hp'
      refine (root64_2 opsF b m).trans ?_
      unfold rootT
      exact (congrArg (fun x => bif !!b then some (AV.val (Cod.enc M6.zero), row 25 b) else x) (doneMT_eq 25 (rootRows opsF m.at b 2))).trans (endT_eq 25 M6.zero b (doneM (rootRows opsF m.at b 2)))
    · refine ⟨fun p => decide (p.2.1 = 3), by simp only [h, decide_true], ?_⟩
      refine Sc_ok (E := envM opsF) gamN_ok 20 fun b p hp => ?_
      obtain ⟨m, n, _⟩ := p
      have hp' : n = 3 := by simpa using hp
      subst hp'
      refine (root64_3 opsF b m).trans ?_
      unfold rootT
      exact (congrArg (fun x => bif !!b then some (AV.val (Cod.enc M6.zero), row 25 b) else x) (doneMT_eq 25 (rootRows opsF m.at b 3))).trans (endT_eq 25 M6.zero b (doneM (rootRows opsF m.at b 3)))
    · refine ⟨fun p => decide (p.2.1 = 4), by simp only [h, decide_true], ?_⟩
      refine Sc_ok (E := envM opsF) gamN_ok 20 fun b p hp => ?_
      obtain ⟨m, n, _⟩ := p
      have hp' : n = 4 := by simpa using hp
      subst hp'
      refine (root64_4 opsF b m).trans ?_
      unfold rootT
      exact (congrArg (fun x => bif !!b then some (AV.val (Cod.enc M6.zero), row 25 b) else x) (doneMT_eq 25 (rootRows opsF m.at b 4))).trans (endT_eq 25 M6.zero b (doneM (rootRows opsF m.at b 4)))
    · refine ⟨fun p => decide (p.2.1 = 5), by simp only [h, decide_true], ?_⟩
      refine Sc_ok (E := envM opsF) gamN_ok 20 fun b p hp => ?_
      obtain ⟨m, n, _⟩ := p
      have hp' : n = 5 := by simpa using hp
      subst hp'
      refine (root64_5 opsF b m).trans ?_
      unfold rootT
      exact (congrArg (fun x => bif !!b then some (AV.val (Cod.enc M6.zero), row 25 b) else x) (doneMT_eq 25 (rootRows opsF m.at b 5))).trans (endT_eq 25 M6.zero b (doneM (rootRows opsF m.at b 5)))
    · refine ⟨fun p => decide (p.2.1 = 6), by simp only [h, decide_true], ?_⟩
      refine Sc_ok (E := envM opsF) gamN_ok 20 fun b p hp => ?_
      obtain ⟨m, n, _⟩ := p
      have hp' : n = 6 := by simpa using hp
      subst hp'
      refine (root64_6 opsF b m).trans ?_
      unfold rootT
      exact (congrArg (fun x => bif !!b then some (AV.val (Cod.enc M6.zero), row 25 b) else x) (doneMT_eq 25 (rootRows opsF m.at b 6))).trans (endT_eq 25 M6.zero b (doneM (rootRows opsF m.at b 6)))
theorem ok65 : SumOk Try.prog 102 (S 27 (matRootN opsF)) := by
  refine S_join fun (a : M6 × Int × Unit) => ?_
  cases hn : okN a.2.1 with
  | false =>
    refine ⟨fun p => !okN p.2.1, by simp only [hn, Bool.not_false], ?_⟩
    refine Sc_okH (E := envM opsF) gamN_ok (hB := mute) muteFit 20 fun b p hp => ?_
    obtain ⟨m, n, _⟩ := p
    have hp' : okN n = false := by simpa using hp
    refine ((root65_bad opsF b m n).trans (badT_eq hp')).trans ?_
    show _ = some (AV.val (Cod.enc (byN M6.zero n b _).1), row 27 (byN M6.zero n b _).2)
    rw [byN_no _ _ _ hp']
  | true =>
    rcases okN_cases hn with h | h | h | h | h | h
    · refine ⟨fun p => decide (p.2.1 = 1), by simp only [h, decide_true], ?_⟩
      refine Sc_ok (E := envM opsF) gamN_ok 20 fun b p hp => ?_
      obtain ⟨m, n, _⟩ := p
      have hp' : n = 1 := by simpa using hp
      subst hp'
      refine (root65_1 opsF b m).trans ?_
      unfold rootT
      exact (congrArg (fun x => bif !!b then some (AV.val (Cod.enc M6.zero), row 27 b) else x) (doneMT_eq 27 (rootRows opsF m.at b 1))).trans (endT_eq 27 M6.zero b (doneM (rootRows opsF m.at b 1)))
    · refine ⟨fun p => decide (p.2.1 = 2), by simp only [h, decide_true], ?_⟩
      refine Sc_ok (E := envM opsF) gamN_ok 20 fun b p hp => ?_
      obtain ⟨m, n, _⟩ := p
      have hp' : n = 2 := by simpa using hp
      subst hp'
      refine (root65_2 opsF b m).trans ?_
      unfold rootT
      exact (congrArg (fun x => bif !!b then some (AV.val (Cod.enc M6.zero), row 27 b) else x) (doneMT_eq 27 (rootRows opsF m.at b 2))).trans (endT_eq 27 M6.zero b (doneM (rootRows opsF m.at b 2)))
    · refine ⟨fun p => decide (p.2.1 = 3), by simp only [h, decide_true], ?_⟩
      refine Sc_ok (E := envM opsF) gamN_ok 20 fun b p hp => ?_
      obtain ⟨m, n, _⟩ := p
      have hp' : n = 3 := by simpa using hp
      subst hp'
      refine (root65_3 opsF b m).trans ?_
      unfold rootT
      exact (congrArg (fun x => bif !!b then some (AV.val (Cod.enc M6.zero), row 27 b) else x) (doneMT_eq 27 (rootRows opsF m.at b 3))).trans (endT_eq 27 M6.zero b (doneM (rootRows opsF m.at b 3)))
    · refine ⟨fun p => decide (p.2.1 = 4), by simp only [h, decide_true], ?_⟩
      refine Sc_ok (E := envM opsF) gamN_ok 20 fun b p hp => ?_
      obtain ⟨m, n, _⟩ := p
      have hp' : n = 4 := by simpa using hp
      subst hp'
      refine (root65_4 opsF b m).trans ?_
      unfold rootT
      exact (congrArg (fun x => bif !!b then some (AV.val (Cod.enc M6.zero), row 27 b) else x) (doneMT_eq 27 (rootRows opsF m.at b 4))).trans (endT_eq 27 M6.zero b (doneM (rootRows opsF m.at b 4)))
    · refine ⟨fun p => decide (p.2.1 = 5), by simp only [h, decide_true], ?_⟩
      refine Sc_ok (E := envM opsF) gamN_ok 20 fun b p hp => ?_
      obtain ⟨m, n, _⟩ := p
      have hp' : n = 5 := by simpa using hp
      subst hp'
      refine (root65_5 opsF b m).trans ?_
      unfold rootT
      exact (congrArg (fun x => bif !!b then some (AV.val (Cod.enc M6.zero), row 27 b) else x) (doneMT_eq 27 (rootRows opsF m.at b 5))).trans (endT_eq 27 M6.zero b (doneM (rootRows opsF m.at b 5)))
    · refine ⟨fun p => decide (p.2.1 = 6), by simp only [h, decide_true], ?_⟩
      refine Sc_ok (E := envM opsF) gamN_ok 20 fun b p hp => ?_
      obtain ⟨m, n, _⟩ := p
      have hp' : n = 6 := by simpa using hp
      subst hp'
      refine (root65_6 opsF b m).trans ?_
      unfold rootT
      exact (congrArg (fun x => bif !!b then some (AV.val (Cod.enc M6.zero), row 27 b) else x) (doneMT_eq 27 (rootRows opsF m.at b 6))).trans (endT_eq 27 M6.zero b (doneM (rootRows opsF m.at b 6)))
end Go.Ab
