/- A part of the proofs: lemmas, no statement of their own; no condition. -/
import Derived.Test.YtccgjhdpiaglaaaGFxM
import Derived.Test.YtccgjhdpiaglaaaGAbU
/- The document's roots: their loops. -/
namespace Go.Ab
open Go Go.Proofs
theorem above173 (a b : Wd) : fnSum Try.prog { gam := [] } [] 20 137 [.val (Cod.enc a), .val (Cod.enc b)] [] =
    bif decide (a.h > b.h) then some (.val (.bool true), []) else bif a.h == b.h then some (.val (.bool (decide (a.l > b.l))), []) else some (.val (.bool false), []) := by kernel_rfl
def abV (p : Wd × Wd × Unit) : Bool := decide (p.1.h > p.2.1.h) || (p.1.h == p.2.1.h && decide (p.1.l > p.2.1.l))
theorem ok173 : SumOk Try.prog 137 (S0 abV) := by
  refine S0_ok (E := { gam := [] }) GamOk.nil 20 fun p => ?_
  obtain ⟨a, b, _⟩ := p
  refine (above173 a b).trans ?_
  unfold abV
  dsimp only
  cases decide (a.h > b.h) <;> cases a.h == b.h <;> rfl
def sqSl : Slots := [(6, .int .u64), (7, .int .i64)]
def sqFx : List (Nat × Nat × Nat) := [(5, 3064991081731777716716694054300618367237478244367208448, 0)]
def sqRows : Rows' := [(4096, 2, [.i64]), (3064991081731777716716694054300618367237478244367208448, 143, [.u64, .u64])]
def sqG : List Nat := 8 :: nums 22 18
def sqSt (r i a h l : Int) (c : Con) (x : Nat → AV) (lo hi step : Nat) : St := lrSt 40 sqSl sqFx sqG c sqRows [r, i, a, h, l] x lo hi step
def bitAt (r i : Int) : Int := IntKind.u64.wrap (r + shI 1 i)
theorem sqRound (mp : U6 × U6 × Unit → Bool) (mv : U6 × U6 × Unit → Wd) (ab : Wd × Wd × Unit → Bool) (r i a h l : Int) (c : Con) (x : Nat → AV) (lo hi step : Nat) :
    run Try.prog (callN Try.prog { gam := [(135, S0c mp mv), (137, S0 ab)] } 1) 40 { quiet := isSum [(135, S0c mp mv), (137, S0 ab)] } [] 50 (Ex × St) (loopOf (blkOf Try.f103 0)) (sqSt r i a h l c x lo hi step) (fun e s' => some (e, maskSt sqG s')) =
      bif decide (i ≥ 0) then bif decide (i < 0) then none else
        bif mp (⟨bitAt r i⟩, ⟨bitAt r i⟩, ()) then
          bif !ab (⟨(mv (⟨bitAt r i⟩, ⟨bitAt r i⟩, ())).h, (mv (⟨bitAt r i⟩, ⟨bitAt r i⟩, ())).l⟩, ⟨h, l⟩, ()) then some (.normal, sqSt (bitAt r i) (IntKind.i64.wrap (i - 1)) a h l c x lo hi step)
          else some (.normal, sqSt r (IntKind.i64.wrap (i - 1)) a h l c x lo hi step)
        else none
      else some (.exit 0, sqSt r i a h l c x lo hi step) := by kernel_rfl
def nmSl : Slots := [(10, .int .u64), (11, .int .i64)]
def nmFx : List (Nat × Nat × Nat) := [(9, 3064991081731777716716694054300618367237478244367208448, 0)]
def nmRows : Rows' := [(4096, 2, [.i64, .i64, .i64]), (3064991081731777716716694054300618367237478244367208448, 143, [.u64, .u64])]
def nmG : List Nat := 12 :: nums 37 18
def nmSt (r i a b c' h l : Int) (c : Con) (x : Nat → AV) (lo hi step : Nat) : St := lrSt 55 nmSl nmFx nmG c nmRows [r, i, a, b, c', h, l] x lo hi step
theorem nmTmps : Try.f70.ntmps = 55 := by kernel_rfl
theorem sqTmps : Try.f103.ntmps = 40 := by kernel_rfl
theorem nmRound (mp : U6 × U6 × Unit → Bool) (mv : U6 × U6 × Unit → Wd) (ab : Wd × Wd × Unit → Bool) (r i a b c' h l : Int) (c : Con) (x : Nat → AV) (lo hi step : Nat) :
    run Try.prog (callN Try.prog { gam := [(135, S0c mp mv), (137, S0 ab)] } 1) 55 { quiet := isSum [(135, S0c mp mv), (137, S0 ab)] } [] 50 (Ex × St) (loopOf (blkOf Try.f70 0)) (nmSt r i a b c' h l c x lo hi step) (fun e s' => some (e, maskSt nmG s')) =
      bif decide (i ≥ 0) then bif decide (i < 0) then none else
        bif mp (⟨bitAt r i⟩, ⟨bitAt r i⟩, ()) then
          bif !ab (⟨(mv (⟨bitAt r i⟩, ⟨bitAt r i⟩, ())).h, (mv (⟨bitAt r i⟩, ⟨bitAt r i⟩, ())).l⟩, ⟨h, l⟩, ()) then some (.normal, nmSt (bitAt r i) (IntKind.i64.wrap (i - 1)) a b c' h l c x lo hi step)
          else some (.normal, nmSt r (IntKind.i64.wrap (i - 1)) a b c' h l c x lo hi step)
        else none
      else some (.exit 0, nmSt r i a b c' h l c x lo hi step) := by kernel_rfl
end Go.Ab
namespace Go.Ab
open Go Go.Proofs
def sqPostV (R : Int → Int → Int → Int → Int → Int) : List Int → List Int
  | [r, i, a, h, l] => [R r i a h l, -1, a, h, l]
  | xs => xs
def nmPostV (R : Int → Int → Int → Int → Int) : List Int → List Int
  | [r, i, a, b, c, h, l] => [R r i h l, -1, a, b, c, h, l]
  | xs => xs
theorem sqrt139 (mp : U6 × U6 × Unit → Bool) (mv : U6 × U6 × Unit → Wd) (gv : Bool → U6 × Bool × Unit → Int × Bool) (p : List Int → Bool) (R : Int → Int → Int → Int → Int → Int) (a : Int) (f : Bool) :
    fnSum Try.prog { gam := [(135, S0c mp mv), (138, S 27 gv)] } [(0, lrHint 40 sqSl sqFx sqG sqRows p (sqPostV R))] 20 103 [.ptr 0 0, .val (.int .i64 a)] (row 27 f) =
    rtk [a] f fun f => bif !!f then some (.val (.int .i64 0), row 27 f) else bif decide (a < 0) then some (.val (.int .i64 0), row 27 true) else
      bif mp (⟨IntKind.u64.wrap a⟩, ⟨1099511627776⟩, ()) then
        let m := mv (⟨IntKind.u64.wrap a⟩, ⟨1099511627776⟩, ())
        bif p [0, 51, a, m.h, m.l] then some (.val (.int .i64 (gv f (⟨R 0 51 a m.h m.l⟩, false, ())).1), row 27 (gv f (⟨R 0 51 a m.h m.l⟩, false, ())).2) else none
      else none := by kernel_rfl
theorem norm142 (mp : U6 × U6 × Unit → Bool) (mv : U6 × U6 × Unit → Wd) (av : Wd × Wd × Unit → Wd) (sz : Int × Unit → U6) (gv : Bool → U6 × Bool × Unit → Int × Bool) (p : List Int → Bool) (R : Int → Int → Int → Int → Int) (a b c : Int) (f : Bool) :
    fnSum Try.prog { gam := [(135, S0c mp mv), (138, S 27 gv), (134, S0 av), (136, S0 sz)] } [(0, lrHint 55 nmSl nmFx nmG nmRows p (nmPostV R))] 20 70 [.ptr 0 0, .val (.int .i64 a), .val (.int .i64 b), .val (.int .i64 c)] (row 27 f) =
    rtk [a, b, c] f fun f => bif !!f then some (.val (.int .i64 0), row 27 f) else
      let sq := fun (x : Int) => mv (⟨(sz (x, ())).n⟩, ⟨(sz (x, ())).n⟩, ())
      bif mp (⟨(sz (a, ())).n⟩, ⟨(sz (a, ())).n⟩, ()) then bif mp (⟨(sz (b, ())).n⟩, ⟨(sz (b, ())).n⟩, ()) then bif mp (⟨(sz (c, ())).n⟩, ⟨(sz (c, ())).n⟩, ()) then
        let s := av (⟨(sq a).h, (sq a).l⟩, ⟨(sq b).h, (sq b).l⟩, ())
        let m := av (⟨s.h, s.l⟩, ⟨(sq c).h, (sq c).l⟩, ())
        bif p [0, 62, a, b, c, m.h, m.l] then some (.val (.int .i64 (gv f (⟨R 0 62 m.h m.l⟩, false, ())).1), row 27 (gv f (⟨R 0 62 m.h m.l⟩, false, ())).2) else none
      else none else none else none := by kernel_rfl
theorem sqBlocks : blocksOf (Try.f103.body.getD .skip) = [(0, .loop (loopOf (blkOf Try.f103 0))), (1, blkOf Try.f103 1)] := by kernel_rfl
theorem nmBlocks : blocksOf (Try.f70.body.getD .skip) = [(0, .loop (loopOf (blkOf Try.f70 0))), (1, blkOf Try.f70 1)] := by kernel_rfl
end Go.Ab
/- The document's Sqrt and Norm. -/
namespace Go.Ab
open Go Go.Proofs
def bpre (r i h l : Int) : Bool := word h && (word l && decide (-1 ≤ i ∧ i ≤ 62 ∧ 0 ≤ r ∧ r + 2 ^ (i + 1).toNat ≤ 9223372036854775808))
def bR (r i h l : Int) : Int := isqB (i + 1).toNat r (h * 18446744073709551616 + l)
theorem notAb {t h l : Int} (hl : word l = true) : (!abV (⟨t * t / 18446744073709551616, t * t % 18446744073709551616⟩, ⟨h, l⟩, ())) = decide (t * t ≤ h * 18446744073709551616 + l) := by
  simp only [word, decide_eq_true_eq] at hl
  unfold abV
  dsimp only
  rw [Bool.eq_iff_iff, Bool.not_eq_true', Bool.or_eq_false_iff, Bool.and_eq_false_iff, decide_eq_true_eq, decide_eq_false_iff_not, decide_eq_false_iff_not, beq_eq_false_iff_ne]
  generalize t * t = N at *
  omega
theorem bStep {r i h l : Int} (hp : bpre r i h l = true) :
    (i ≥ 0 → ¬ i < 0 ∧ mulPre (⟨bitAt r i⟩, ⟨bitAt r i⟩, ()) = true ∧ IntKind.i64.wrap (i - 1) = i - 1 ∧
      ∀ r', r' = (bif !abV (⟨(timesVal (⟨bitAt r i⟩, ⟨bitAt r i⟩, ())).h, (timesVal (⟨bitAt r i⟩, ⟨bitAt r i⟩, ())).l⟩, ⟨h, l⟩, ()) then bitAt r i else r) →
      bpre r' (i - 1) h l = true ∧ bR r' (i - 1) h l = bR r i h l ∧ (i - 1 + 1).toNat < (i + 1).toNat) ∧
    (¬ i ≥ 0 → i = -1 ∧ bR r i h l = r) := by
  simp only [bpre, Bool.and_eq_true, decide_eq_true_eq] at hp
  obtain ⟨hh, hl, h1, h2, h3, h4⟩ := hp
  refine ⟨fun h0 => ?_, fun h0 => ?_⟩
  · obtain ⟨n, rfl⟩ : ∃ n : Nat, i = n := ⟨i.toNat, by omega⟩
    have e1 : ((n : Int) + 1).toNat = n + 1 := by omega
    have e2 : ((n : Int) - 1 + 1).toNat = n := by omega
    have hk := two_pow_pos n
    have hs := two_pow_succ n
    rw [e1] at h4
    have hb : bitAt r n = r + 2 ^ n := by
      have : shI 1 n = 1 * 2 ^ n % 18446744073709551616 := shI_eq 1 n (by omega)
      unfold bitAt
      rw [this, Int.one_mul, Int.emod_eq_of_lt (by omega) (by omega), wrap_u64_id (by omega) (by omega)]
    rw [hb]
    refine ⟨by omega, by simp only [mulPre, word, Bool.and_eq_true, decide_eq_true_eq]; omega, wrap_i64_id (by omega) (by omega), fun r' hr' => ?_⟩
    have hr' : r' = bif decide ((r + 2 ^ n) * (r + 2 ^ n) ≤ h * 18446744073709551616 + l) then r + 2 ^ n else r := by
      rw [hr', ← notAb hl]; rfl
    refine ⟨?_, ?_, by omega⟩
    · simp only [bpre, Bool.and_eq_true, decide_eq_true_eq, e2]
      refine ⟨hh, hl, by omega, by omega, ?_⟩
      cases hc : decide ((r + 2 ^ n) * (r + 2 ^ n) ≤ h * 18446744073709551616 + l) <;> rw [hc] at hr' <;> simp only [cond_true, cond_false] at hr' <;> subst hr' <;> omega
    · simp only [bR, e1, e2, isqB]
      subst hr'
      cases decide ((r + 2 ^ n) * (r + 2 ^ n) ≤ h * 18446744073709551616 + l) <;> rfl
  · have : i = -1 := by omega
    subst this
    exact ⟨rfl, rfl⟩
def sqpre : List Int → Bool
  | [r, i, _, h, l] => bpre r i h l
  | _ => false
def sqpost : List Int → List Int := sqPostV fun r i _ h l => bR r i h l
def nmpre : List Int → Bool
  | [r, i, _, _, _, h, l] => bpre r i h l
  | _ => false
def nmpost : List Int → List Int := nmPostV bR
theorem hcallS : ∀ β, CallOk Try.prog (callN Try.prog { gam := [(135, S0c mulPre timesVal), (137, S0 abV)] } 1 β) := callN_ok (.cons ok172 (.cons ok173 .nil)) 1
def sqHints : Hints := [(0, lrHint 40 sqSl sqFx sqG sqRows sqpre sqpost)]
def nmHints : Hints := [(0, lrHint 55 nmSl nmFx nmG nmRows nmpre nmpost)]
theorem sqFit : ∀ fn c, Try.prog.funcs[103]? = some fn → fn.body = some c → HFit Try.prog fn.ntmps sqHints c := by
  intro fn c hf hb
  rw [Try.func103] at hf
  cases hf
  have hc : Try.f103.body.getD .skip = c := by rw [hb]; rfl
  rw [sqTmps]
  have hL := sqBlocks
  rw [hc] at hL
  refine HFit.of fun p hp h hh s s' hs => ?_
  rw [hL] at hp
  simp only [List.mem_cons, List.not_mem_nil, or_false] at hp
  rcases hp with rfl | rfl
  · have : h = lrHint 40 sqSl sqFx sqG sqRows sqpre sqpost := (Option.some.inj hh).symm
    subst this
    refine lr_ok hcallS (F := 50) (wy := { quiet := isSum [(135, S0c mulPre timesVal), (137, S0 abV)] }) (fun xs => (xs.getD 1 0 + 1).toNat) ?_ s s' hs
    intro xs hlen hpre cc x lo hi step
    obtain ⟨r, i, a, hw, l, rfl⟩ : ∃ r i a h l, xs = [r, i, a, h, l] := by
      match xs, hlen with
      | [a, b, c, d, e], _ => exact ⟨a, b, c, d, e, rfl⟩
    have hr := sqRound mulPre timesVal abV r i a hw l cc x lo hi step
    unfold sqSt at hr
    rw [hr]
    obtain ⟨h1, h2⟩ := bStep (r := r) (i := i) (h := hw) (l := l) hpre
    by_cases hge : i ≥ 0
    · obtain ⟨k1, k2, k3, k4⟩ := h1 hge
      simp only [hge, k1, k2, k3, decide_true, decide_false, cond_true, cond_false]
      have key : ∀ r', bpre r' (i - 1) hw l = true ∧ bR r' (i - 1) hw l = bR r i hw l ∧ (i - 1 + 1).toNat < (i + 1).toNat →
          ∃ ys, ys.length = shLen sqSl + rowLen sqRows ∧ sqpre ys = true ∧ (ys.getD 1 0 + 1).toNat < ([r, i, a, hw, l].getD 1 0 + 1).toNat ∧ sqpost ys = sqpost [r, i, a, hw, l] ∧
            (some (Ex.normal, lrSt 40 sqSl sqFx sqG cc sqRows [r', i - 1, a, hw, l] x lo hi step) : Option (Ex × St)) = some (.normal, lrSt 40 sqSl sqFx sqG cc sqRows ys x lo hi step) := by
        intro r' hr'
        exact ⟨[r', i - 1, a, hw, l], rfl, hr'.1, by simpa only [List.getD_cons_succ, List.getD_cons_zero] using hr'.2.2, by simp only [sqpost, sqPostV, hr'.2.1], rfl⟩
      cases hc : !abV (⟨(timesVal (⟨bitAt r i⟩, ⟨bitAt r i⟩, ())).h, (timesVal (⟨bitAt r i⟩, ⟨bitAt r i⟩, ())).l⟩, ⟨hw, l⟩, ()) <;> rw [hc] at k4
      · exact .inl (key _ (k4 _ rfl))
      · exact .inl (key _ (k4 _ rfl))
    · obtain ⟨rfl, k2⟩ := h2 hge
      simp only [hge, decide_false, cond_false]
      refine .inr ?_
      simp only [sqpost, sqPostV, k2]
  · simp [findH, sqHints] at hh
theorem nmFit : ∀ fn c, Try.prog.funcs[70]? = some fn → fn.body = some c → HFit Try.prog fn.ntmps nmHints c := by
  intro fn c hf hb
  rw [Try.func70] at hf
  cases hf
  have hc : Try.f70.body.getD .skip = c := by rw [hb]; rfl
  rw [nmTmps]
  have hL := nmBlocks
  rw [hc] at hL
  refine HFit.of fun p hp h hh s s' hs => ?_
  rw [hL] at hp
  simp only [List.mem_cons, List.not_mem_nil, or_false] at hp
  rcases hp with rfl | rfl
  · have : h = lrHint 55 nmSl nmFx nmG nmRows nmpre nmpost := (Option.some.inj hh).symm
    subst this
    refine lr_ok hcallS (F := 50) (wy := { quiet := isSum [(135, S0c mulPre timesVal), (137, S0 abV)] }) (fun xs => (xs.getD 1 0 + 1).toNat) ?_ s s' hs
    intro xs hlen hpre cc x lo hi step
    obtain ⟨r, i, a, b, c, hw, l, rfl⟩ : ∃ r i a b c h l, xs = [r, i, a, b, c, h, l] := by
      match xs, hlen with
      | [a, b, c, d, e, f, g], _ => exact ⟨a, b, c, d, e, f, g, rfl⟩
    have hr := nmRound mulPre timesVal abV r i a b c hw l cc x lo hi step
    unfold nmSt at hr
    rw [hr]
    obtain ⟨h1, h2⟩ := bStep (r := r) (i := i) (h := hw) (l := l) hpre
    by_cases hge : i ≥ 0
    · obtain ⟨k1, k2, k3, k4⟩ := h1 hge
      simp only [hge, k1, k2, k3, decide_true, decide_false, cond_true, cond_false]
      have key : ∀ r', bpre r' (i - 1) hw l = true ∧ bR r' (i - 1) hw l = bR r i hw l ∧ (i - 1 + 1).toNat < (i + 1).toNat →
          ∃ ys, ys.length = shLen nmSl + rowLen nmRows ∧ nmpre ys = true ∧ (ys.getD 1 0 + 1).toNat < ([r, i, a, b, c, hw, l].getD 1 0 + 1).toNat ∧ nmpost ys = nmpost [r, i, a, b, c, hw, l] ∧
            (some (Ex.normal, lrSt 55 nmSl nmFx nmG cc nmRows [r', i - 1, a, b, c, hw, l] x lo hi step) : Option (Ex × St)) = some (.normal, lrSt 55 nmSl nmFx nmG cc nmRows ys x lo hi step) := by
        intro r' hr'
        exact ⟨[r', i - 1, a, b, c, hw, l], rfl, hr'.1, by simpa only [List.getD_cons_succ, List.getD_cons_zero] using hr'.2.2, by simp only [nmpost, nmPostV, hr'.2.1], rfl⟩
      cases hc : !abV (⟨(timesVal (⟨bitAt r i⟩, ⟨bitAt r i⟩, ())).h, (timesVal (⟨bitAt r i⟩, ⟨bitAt r i⟩, ())).l⟩, ⟨hw, l⟩, ()) <;> rw [hc] at k4
      · exact .inl (key _ (k4 _ rfl))
      · exact .inl (key _ (k4 _ rfl))
    · obtain ⟨rfl, k2⟩ := h2 hge
      simp only [hge, decide_false, cond_false]
      refine .inr ?_
      simp only [nmpost, nmPostV, k2]
  · simp [findH, nmHints] at hh
theorem S_okH {α ω : Type} [Args α] [Cod ω] {P : Program} {E : Env} (hG : GamOk P E.gam) {hB : Hints} {f : FuncId} {e : TypeId} {g : Bool → α → ω × Bool} (hfit : ∀ fn c, P.funcs[f]? = some fn → fn.body = some c → HFit P fn.ntmps hB c) (d : Nat)
    (h : ∀ b a, fnSum P E hB d f (.ptr 0 0 :: Args.encs a) (row e b) = some (.val (Cod.enc (g b a).1), row e (g b a).2)) : SumOk P f (S e g) := by
  refine sumOk_ofH hG hfit fun args cs r cs' hs => ?_
  obtain ⟨b, a, rfl, rfl, rfl, rfl⟩ := S_sel hs
  exact ⟨by simp [row], d, h b a⟩
theorem Sc_okH {α ω : Type} [Args α] [Cod ω] {P : Program} {E : Env} (hG : GamOk P E.gam) {hB : Hints} {f : FuncId} {e : TypeId} {pre : α → Bool} {g : Bool → α → ω × Bool} (hfit : ∀ fn c, P.funcs[f]? = some fn → fn.body = some c → HFit P fn.ntmps hB c) (d : Nat)
    (h : ∀ b a, pre a = true → fnSum P E hB d f (.ptr 0 0 :: Args.encs a) (row e b) = some (.val (Cod.enc (g b a).1), row e (g b a).2)) : SumOk P f (Sc e pre g) := by
  refine sumOk_ofH hG hfit fun args cs r cs' hs => ?_
  obtain ⟨b, a, hp, rfl, rfl, rfl, rfl⟩ := Sc_sel hs
  exact ⟨by simp [row], d, h b a hp⟩
theorem gvU_num {f : Bool} {q : Int} (h0 : 0 ≤ q) (h1 : q < 9223372036854775808) : gvU f (⟨q⟩, false, ()) = bif decide (q > 4611686018427387904) then (0, true) else (q, f) := by
  unfold gvU
  dsimp only
  rw [wrap_i64_id (z := q) (by omega) (by omega)]
  rfl
theorem ok139 : SumOk Try.prog 103 (S 27 (op1 fsqrt)) := by
  have hG : GamOk Try.prog [(135, S0c mulPre timesVal), (138, S 27 gvU)] := .cons ok172 (.cons ok174 .nil)
  refine S_okH (E := { gam := [(135, S0c mulPre timesVal), (138, S 27 gvU)] }) hG (hB := sqHints) sqFit 20 fun f p => ?_
  obtain ⟨a, _⟩ := p
  refine ((sqrt139 mulPre timesVal gvU sqpre (fun r i _ h l => bR r i h l) a f).trans (rtk_eq _ _ _)).trans ?_
  show _ = some (AV.val (Cod.enc (fsqrt f a).1), row 27 (fsqrt f a).2)
  unfold fsqrt
  cases hb : (f || !nums? [a]) with
  | true => rfl
  | false =>
    simp only [Bool.or_eq_false_iff, Bool.not_eq_false', nums?, Bool.and_true, num_iff] at hb
    obtain ⟨rfl, ha⟩ := hb
    by_cases h0 : a < 0
    · simp only [h0, decide_true, cond_true]; rfl
    · have hw : IntKind.u64.wrap a = a := wrap_u64_id (by omega) (by omega)
      have hm : mulPre (⟨a⟩, ⟨1099511627776⟩, ()) = true := by simp only [mulPre, word, Bool.and_eq_true, decide_eq_true_eq]; omega
      have hv : timesVal (⟨a⟩, ⟨1099511627776⟩, ()) = ⟨a * 1099511627776 / 18446744073709551616, a * 1099511627776 % 18446744073709551616⟩ := rfl
      obtain ⟨b0, b1⟩ := sqrt_bound (a := a) (by omega) (by omega)
      obtain ⟨i0, i1⟩ := isq_num b0 b1
      simp only [h0, hw, hm, hv, decide_false, cond_false, cond_true, Bool.not_false, Bool.not_true]
      have hpre : sqpre [0, 51, a, a * 1099511627776 / 18446744073709551616, a * 1099511627776 % 18446744073709551616] = true := by
        have e102 : (2 : Int) ^ 102 = 5070602400912917605986812821504 := by decide
        simp only [sqpre, bpre, word, Bool.and_eq_true, decide_eq_true_eq]
        refine ⟨by omega, by omega, by omega, by omega, by omega, by decide⟩
      have hR : bR 0 51 (a * 1099511627776 / 18446744073709551616) (a * 1099511627776 % 18446744073709551616) = isq (a * 1099511627776) := by
        unfold bR
        rw [show a * 1099511627776 / 18446744073709551616 * 18446744073709551616 + a * 1099511627776 % 18446744073709551616 = a * 1099511627776 by omega]
        exact isqB_52 b0 (Int.lt_of_lt_of_le b1 (by decide))
      rw [hpre, hR, cond_true, gvU_num i0 (by omega), show decide (isq (a * 1099511627776) > 4611686018427387904) = false by simp; omega]
      rfl
theorem ok142 : SumOk Try.prog 70 (S 27 (op3 fnorm)) := by
  have hG : GamOk Try.prog [(135, S0c mulPre timesVal), (138, S 27 gvU), (134, S0 adV), (136, S0 szU)] := .cons ok172 (.cons ok174 (.cons ok178 (.cons ok179 .nil)))
  refine S_okH (E := { gam := [(135, S0c mulPre timesVal), (138, S 27 gvU), (134, S0 adV), (136, S0 szU)] }) hG (hB := nmHints) nmFit 20 fun f p => ?_
  obtain ⟨a, b, c, _⟩ := p
  refine ((norm142 mulPre timesVal adV szU gvU nmpre bR a b c f).trans (rtk_eq _ _ _)).trans ?_
  show _ = some (AV.val (Cod.enc (fnorm f a b c).1), row 27 (fnorm f a b c).2)
  unfold fnorm
  cases hb : (f || !nums? [a, b, c]) with
  | true => rfl
  | false =>
    obtain ⟨rfl, ha, hb', hc⟩ := nums3 hb
    obtain ⟨a3, a4⟩ := iabs_num ha
    obtain ⟨b3, b4⟩ := iabs_num hb'
    obtain ⟨c3, c4⟩ := iabs_num hc
    obtain ⟨a5, a6⟩ := num_sq ha
    obtain ⟨b5, b6⟩ := num_sq hb'
    obtain ⟨c5, c6⟩ := num_sq hc
    have hm : ∀ x : Int, 0 ≤ x → x ≤ 4611686018427387904 → mulPre (⟨x⟩, ⟨x⟩, ()) = true := by
      intro x h0 h1
      simp only [mulPre, word, Bool.and_eq_true, decide_eq_true_eq]; omega
    have hok : ∀ N : Int, 0 ≤ N → N ≤ 63802943797675961899382738893456539648 → (Wd.mk (N / 18446744073709551616) (N % 18446744073709551616)).ok = true ∧ (Wd.mk (N / 18446744073709551616) (N % 18446744073709551616)).val = N := by
      intro N h0 h1
      simp only [Wd.ok, Wd.val, word, Bool.and_eq_true, decide_eq_true_eq]; omega
    have hsum : ∀ M N : Int, 0 ≤ M → 0 ≤ N → M + N ≤ 63802943797675961899382738893456539648 → adV (⟨M / 18446744073709551616, M % 18446744073709551616⟩, ⟨N / 18446744073709551616, N % 18446744073709551616⟩, ()) = ⟨(M + N) / 18446744073709551616, (M + N) % 18446744073709551616⟩ := by
      intro M N h0 h1 h2
      obtain ⟨k1, k2⟩ := adV_val (hok M h0 (by omega)).1 (hok N h1 (by omega)).1
      rw [(hok M h0 (by omega)).2, (hok N h1 (by omega)).2, Int.emod_eq_of_lt (a := M + N) (by omega) (by omega)] at k2
      generalize adV (⟨M / 18446744073709551616, M % 18446744073709551616⟩, ⟨N / 18446744073709551616, N % 18446744073709551616⟩, ()) = D at *
      obtain ⟨dh, dl⟩ := D
      simp only [Wd.ok, Wd.val, word, Bool.and_eq_true, decide_eq_true_eq] at k1 k2
      congr 1 <;> omega
    have ht : ∀ x : Int, timesVal (⟨x⟩, ⟨x⟩, ()) = ⟨x * x / 18446744073709551616, x * x % 18446744073709551616⟩ := fun x => rfl
    simp only [szU_num ha, szU_num hb', szU_num hc, hm _ a3 a4, hm _ b3 b4, hm _ c3 c4, ht, iabs_sq, Bool.not_false, Bool.not_true, cond_false, cond_true, hsum _ _ a5 b5 (by omega), hsum (a * a + b * b) (c * c) (by omega) c5 (by omega)]
    generalize hW : a * a + b * b + c * c = W at *
    have e126 : (2 : Int) ^ 126 = 85070591730234615865843651857942052864 := by decide
    have e63 : (2 : Int) ^ 63 = 9223372036854775808 := by decide
    obtain ⟨i0, i1, _, _⟩ := isq_spec (W := W) (by omega) (by omega)
    have hpre : nmpre [0, 62, a, b, c, W / 18446744073709551616, W % 18446744073709551616] = true := by
      simp only [nmpre, bpre, word, Bool.and_eq_true, decide_eq_true_eq]
      refine ⟨by omega, by omega, by omega, by omega, by omega, by decide⟩
    have hR : bR 0 62 (W / 18446744073709551616) (W % 18446744073709551616) = isq W := by
      unfold bR
      rw [show W / 18446744073709551616 * 18446744073709551616 + W % 18446744073709551616 = W by omega]
      rfl
    rw [hpre, hR, cond_true, gvU_num i0 (by omega)]
    cases decide (isq W > 4611686018427387904) <;> rfl
end Go.Ab
/- All operations of the numbers, in both packages; lengths and units of vectors. -/
namespace Go.Ab
open Go Go.Proofs
def opsF : Ops := { add := fadd, sub := fsub, mul := fmul, div := fdiv, mod := fmod, part := fpart, norm := fnorm, sqrt := fsqrt }
def gamN (o : Ops) : Gam := [(61, S 25 (op2 o.add)), (84, S 25 (op2 o.sub)), (62, S 25 (op2 o.mul)), (74, S 25 (op2 o.div)), (60, S 25 (op2 o.mod)), (59, S 25 (op3 o.part)), (69, S 25 (op3 o.norm)), (101, S 25 (op1 o.sqrt)), (71, S 25 failV),
  (64, S 27 (op2 o.add)), (86, S 27 (op2 o.sub)), (67, S 27 (op2 o.mul)), (76, S 27 (op2 o.div)), (66, S 27 (op2 o.mod)), (65, S 27 (op3 o.part)), (70, S 27 (op3 o.norm)), (103, S 27 (op1 o.sqrt)), (75, S 27 failV)]
theorem gamN_ok : GamOk Try.prog (gamN opsF) :=
  .cons ok124 (.cons ok127 (.cons ok121 (.cons ok135 (.cons ok56 (.cons ok116 (.cons ok141 (.cons ok137 (.cons ok115
  (.cons ok125 (.cons ok128 (.cons ok122 (.cons ok140 (.cons ok131 (.cons ok118 (.cons ok142 (.cons ok139 (.cons ok117 .nil)))))))))))))))))
end Go.Ab
/- Lengths and units of vectors, and how far two are apart. -/
namespace Go.Ab
open Go Go.Proofs
theorem pull2 {ω : Type} [Cod ω] {c g : Bool} {F : Bool → ω × Bool} {e : TypeId} : (bif c then some (AV.val (Cod.enc (F true).1), row e (F true).2) else some (AV.val (Cod.enc (F g).1), row e (F g).2)) =
    some (AV.val (Cod.enc (F (bif c then true else g)).1), row e (F (bif c then true else g)).2) := by cases c <;> rfl
def vnorm (o : Ops) (b : Bool) (p : V3 × Unit) : Int × Bool := o.norm b p.1.x p.1.y p.1.z
def vunit0 (o : Ops) (u : V3) (n : Int) (f : Bool) : V3 × Bool := each3 f (fun b => o.div b u.x n) (fun b => o.div b u.y n) (fun b => o.div b u.z n)
def vunitN (o : Ops) (u : V3) (n : Int) (f : Bool) : V3 × Bool := done3 (vunit0 o u n f)
def vunit (o : Ops) (b : Bool) (p : V3 × Unit) : V3 × Bool :=
  vunitN o p.1 (vnorm o b p).1 (bif decide ((vnorm o b p).1 < 1048576) then true else (vnorm o b p).2)
theorem norm66 (o : Ops) (b : Bool) (u : V3) : fnSum Try.prog { gam := gamN o } [] 20 19 [.ptr 0 0, .val (Cod.enc u)] (row 25 b) = some (.val (Cod.enc (vnorm o b (u, ())).1), row 25 (vnorm o b (u, ())).2) := by kernel_rfl
theorem norm67 (o : Ops) (b : Bool) (u : V3) : fnSum Try.prog { gam := gamN o } [] 20 20 [.ptr 0 0, .val (Cod.enc u)] (row 27 b) = some (.val (Cod.enc (vnorm o b (u, ())).1), row 27 (vnorm o b (u, ())).2) := by kernel_rfl
def unitT (o : Ops) (e : TypeId) (u : V3) (n : Int) (f : Bool) : Option (AV × List Con) :=
  bif (vunitN o u n f).2 then some (.val (Cod.enc V3.zero), row e (vunitN o u n f).2) else some (.val (Cod.enc (vunit0 o u n f).1), row e (vunitN o u n f).2)
theorem unitT_eq (o : Ops) (e : TypeId) (u : V3) (n : Int) (f : Bool) : unitT o e u n f = some (.val (Cod.enc (vunitN o u n f).1), row e (vunitN o u n f).2) := pull
theorem unit68 (o : Ops) (b : Bool) (u : V3) : fnSum Try.prog { gam := gamN o } [] 20 21 [.ptr 0 0, .val (Cod.enc u)] (row 25 b) = some (.val (Cod.enc (vunit o b (u, ())).1), row 25 (vunit o b (u, ())).2) := by
  refine Eq.trans (?_ : _ = bif decide ((vnorm o b (u, ())).1 < 1048576) then unitT o 25 u (vnorm o b (u, ())).1 true else unitT o 25 u (vnorm o b (u, ())).1 (vnorm o b (u, ())).2) ?_
  · kernel_rfl
  · rw [unitT_eq, unitT_eq]; exact pull2
theorem unit69 (o : Ops) (b : Bool) (u : V3) : fnSum Try.prog { gam := gamN o } [] 20 22 [.ptr 0 0, .val (Cod.enc u)] (row 27 b) = some (.val (Cod.enc (vunit o b (u, ())).1), row 27 (vunit o b (u, ())).2) := by
  refine Eq.trans (?_ : _ = bif decide ((vnorm o b (u, ())).1 < 1048576) then unitT o 27 u (vnorm o b (u, ())).1 true else unitT o 27 u (vnorm o b (u, ())).1 (vnorm o b (u, ())).2) ?_
  · kernel_rfl
  · rw [unitT_eq, unitT_eq]; exact pull2
theorem ok66 : SumOk Try.prog 19 (S 25 (vnorm opsF)) := S_ok gamN_ok 20 fun b a => norm66 opsF b a.1
theorem ok67 : SumOk Try.prog 20 (S 27 (vnorm opsF)) := S_ok gamN_ok 20 fun b a => norm67 opsF b a.1
theorem ok68 : SumOk Try.prog 21 (S 25 (vunit opsF)) := S_ok gamN_ok 20 fun b a => unit68 opsF b a.1
theorem ok69 : SumOk Try.prog 22 (S 27 (vunit opsF)) := S_ok gamN_ok 20 fun b a => unit69 opsF b a.1
/-- The operations of vectors, as variables. -/
structure VOps where
  add : Bool → V3 × V3 × Unit → V3 × Bool
  sub : Bool → V3 × V3 × Unit → V3 × Bool
  scale : Bool → V3 × Int × Unit → V3 × Bool
  cross : Bool → V3 × V3 × Unit → V3 × Bool
  dot : Bool → V3 × V3 × Unit → Int × Bool
  norm : Bool → V3 × Unit → Int × Bool
  unit : Bool → V3 × Unit → V3 × Bool
def gamV (v : VOps) : Gam := [(90, S 25 v.add), (91, S 25 v.sub), (89, S 25 v.scale), (68, S 25 v.cross), (78, S 25 v.dot), (19, S 25 v.norm), (21, S 25 v.unit),
  (95, S 27 v.add), (94, S 27 v.sub), (93, S 27 v.scale), (79, S 27 v.cross), (80, S 27 v.dot), (20, S 27 v.norm), (22, S 27 v.unit)]
def vopsF : VOps := { add := vop fadd, sub := vop fsub, scale := vscale fmul, cross := vcross opsM, dot := vdotP opsM, norm := vnorm opsF, unit := vunit opsF }
theorem ok50 : SumOk Try.prog 90 (S 25 (vop fadd)) := S_ok gamA_ok 20 fun b a => add50 ops0 b a.1 a.2.1
theorem ok51 : SumOk Try.prog 95 (S 27 (vop fadd)) := S_ok gamA_ok 20 fun b a => add51 ops0 b a.1 a.2.1
theorem ok52 : SumOk Try.prog 91 (S 25 (vop fsub)) := S_ok gamA_ok 20 fun b a => sub52 ops0 b a.1 a.2.1
theorem ok53 : SumOk Try.prog 94 (S 27 (vop fsub)) := S_ok gamA_ok 20 fun b a => sub53 ops0 b a.1 a.2.1
theorem gamV_ok : GamOk Try.prog (gamV vopsF) :=
  .cons ok50 (.cons ok52 (.cons ok44 (.cons ok48 (.cons ok46 (.cons ok66 (.cons ok68 (.cons ok51 (.cons ok53 (.cons ok45 (.cons ok49 (.cons ok47 (.cons ok67 (.cons ok69 .nil)))))))))))))
end Go.Ab
/- Matrices: what both packages compute. -/
namespace Go.Ab
open Go Go.Proofs
structure R6 where
  a : Int
  b : Int
  c : Int
  d : Int
  e : Int
  f : Int
instance : Cod R6 where
  enc r := .agg #[.int .i64 r.a, .int .i64 r.b, .int .i64 r.c, .int .i64 r.d, .int .i64 r.e, .int .i64 r.f]
  dec v := match v with | .agg ⟨[.int .i64 a, .int .i64 b, .int .i64 c, .int .i64 d, .int .i64 e, .int .i64 f]⟩ => some ⟨a, b, c, d, e, f⟩ | _ => none
  law v a h := by split at h <;> simp_all; subst h; simp
structure M6 where
  a : R6
  b : R6
  c : R6
  d : R6
  e : R6
  f : R6
def R6.cells (r : R6) : List Value := [.int .i64 r.a, .int .i64 r.b, .int .i64 r.c, .int .i64 r.d, .int .i64 r.e, .int .i64 r.f]
def six : List Value → Option (R6 × List Value)
  | .int .i64 a :: .int .i64 b :: .int .i64 c :: .int .i64 d :: .int .i64 e :: .int .i64 f :: r => some (⟨a, b, c, d, e, f⟩, r)
  | _ => none
theorem six_law {l : List Value} {x : R6} {r : List Value} (h : six l = some (x, r)) : l = x.cells ++ r := by
  unfold six at h
  split at h
  · cases h; rfl
  · cases h
instance : Cod M6 where
  enc m := .agg ⟨m.a.cells ++ (m.b.cells ++ (m.c.cells ++ (m.d.cells ++ (m.e.cells ++ (m.f.cells ++ [])))))⟩
  dec v := match v with
    | .agg ⟨l⟩ => match six l with
      | some (a, l) => match six l with
        | some (b, l) => match six l with
          | some (c, l) => match six l with
            | some (d, l) => match six l with
              | some (e, l) => match six l with
                | some (f, []) => some ⟨a, b, c, d, e, f⟩
                | _ => none
              | none => none
            | none => none
          | none => none
        | none => none
      | none => none
    | _ => none
  law v m h := by
    split at h
    · rename_i l
      split at h
      · rename_i a l1 h1
        split at h
        · rename_i b l2 h2
          split at h
          · rename_i c l3 h3
            split at h
            · rename_i d l4 h4
              split at h
              · rename_i e l5 h5
                split at h
                · rename_i f h6
                  cases h
                  rw [six_law h1, six_law h2, six_law h3, six_law h4, six_law h5, six_law h6]
                · cases h
              · cases h
            · cases h
          · cases h
        · cases h
      · cases h
    · cases h
def R6.at (r : R6) : Nat → Int
  | 0 => r.a
  | 1 => r.b
  | 2 => r.c
  | 3 => r.d
  | 4 => r.e
  | 5 => r.f
  | _ => 0
abbrev Mx := Nat → Nat → Int
def M6.row (m : M6) : Nat → R6
  | 0 => m.a
  | 1 => m.b
  | 2 => m.c
  | 3 => m.d
  | 4 => m.e
  | _ => m.f
def M6.at (m : M6) : Mx := fun i j => (m.row i).at j
def R6.of (v : Nat → Int) : R6 := ⟨v 0, v 1, v 2, v 3, v 4, v 5⟩
def M6.of (L : Mx) : M6 := ⟨R6.of (L 0), R6.of (L 1), R6.of (L 2), R6.of (L 3), R6.of (L 4), R6.of (L 5)⟩
def mx0 : Mx := fun _ _ => 0
def M6.zero : M6 := M6.of mx0
def R6.zero : R6 := R6.of fun _ => 0
def setM (L : Mx) (i j : Nat) (v : Int) : Mx := fun a b => bif Nat.beq a i && Nat.beq b j then v else L a b
def setR (L : Nat → Int) (i : Nat) (v : Int) : Nat → Int := fun a => bif Nat.beq a i then v else L a
/-- s, less the products of two rows' first k numbers. -/
def lessN (o : Ops) (a b : Nat → Int) (s : Int × Bool) : Nat → Int × Bool
  | 0 => s
  | k + 1 =>
    let r := lessN o a b s k
    let m := o.mul r.2 (a k) (b k)
    o.sub m.2 r.1 m.1
def rootCols (o : Ops) (m : Mx) (i : Nat) (st : Mx × Bool) : Nat → Mx × Bool
  | 0 => st
  | j + 1 =>
    let r := rootCols o m i st j
    let s := lessN o (r.1 i) (r.1 j) (o.add r.2 (m i j) 0) j
    let d := o.div s.2 s.1 (r.1 j j)
    (setM r.1 i j d.1, d.2)
def rootRow (o : Ops) (m : Mx) (i : Nat) (st : Mx × Bool) : Mx × Bool :=
  let r := rootCols o m i st i
  let s := lessN o (r.1 i) (r.1 i) (o.add r.2 (m i i) 0) i
  let q := o.sqrt (bif decide (s.1 < 1) then true else s.2) s.1
  (setM r.1 i i q.1, q.2)
def rootRows (o : Ops) (m : Mx) (b : Bool) : Nat → Mx × Bool
  | 0 => (mx0, b)
  | i + 1 => rootRow o m i (rootRows o m b i)
def okN (n : Int) : Bool := decide (1 ≤ n) && decide (n ≤ 6)
def envM (o : Ops) : Env := { gam := gamN o, ways := [(81, [71]), (102, [75])] }
end Go.Ab
/- Roots: trees of both packages, for each count. -/
namespace Go.Ab
open Go Go.Proofs
def rootT (o : Ops) (e : TypeId) (b : Bool) (m : M6) (k : Nat) : Option (AV × List Con) :=
  bif !!b then some (.val (Cod.enc M6.zero), row e b) else bif (rootRows o m.at b k).2 then some (.val (Cod.enc M6.zero), row e (rootRows o m.at b k).2) else some (.val (Cod.enc (M6.of (rootRows o m.at b k).1)), row e (rootRows o m.at b k).2)
theorem root64_1 (o : Ops) (b : Bool) (m : M6) : fnSum Try.prog (envM o) [] 20 81 [.ptr 0 0, .val (Cod.enc m), .val (.int .i64 1)] (row 25 b) = rootT o 25 b m 1 := by kernel_rfl
theorem root64_2 (o : Ops) (b : Bool) (m : M6) : fnSum Try.prog (envM o) [] 20 81 [.ptr 0 0, .val (Cod.enc m), .val (.int .i64 2)] (row 25 b) = rootT o 25 b m 2 := by kernel_rfl
theorem root64_3 (o : Ops) (b : Bool) (m : M6) : fnSum Try.prog (envM o) [] 20 81 [.ptr 0 0, .val (Cod.enc m), .val (.int .i64 3)] (row 25 b) = rootT o 25 b m 3 := by kernel_rfl
theorem root64_4 (o : Ops) (b : Bool) (m : M6) : fnSum Try.prog (envM o) [] 20 81 [.ptr 0 0, .val (Cod.enc m), .val (.int .i64 4)] (row 25 b) = rootT o 25 b m 4 := by kernel_rfl
theorem root64_5 (o : Ops) (b : Bool) (m : M6) : fnSum Try.prog (envM o) [] 20 81 [.ptr 0 0, .val (Cod.enc m), .val (.int .i64 5)] (row 25 b) = rootT o 25 b m 5 := by kernel_rfl
theorem root64_6 (o : Ops) (b : Bool) (m : M6) : fnSum Try.prog (envM o) [] 20 81 [.ptr 0 0, .val (Cod.enc m), .val (.int .i64 6)] (row 25 b) = rootT o 25 b m 6 := by kernel_rfl
end Go.Ab
/- What is solved; squares; what a matrix makes of a row: what both packages compute. -/
namespace Go.Ab
open Go Go.Proofs
def fwdN (o : Ops) (L : Mx) (y : Nat → Int) (b : Bool) : Nat → (Nat → Int) × Bool
  | 0 => (fun _ => 0, b)
  | i + 1 =>
    let r := fwdN o L y b i
    let s := lessN o (L i) r.1 (o.add r.2 (y i) 0) i
    let d := o.div s.2 s.1 (L i i)
    (setR r.1 i d.1, d.2)
def lessB (o : Ops) (L : Mx) (x : Nat → Int) (i : Nat) (s : Int × Bool) : Nat → Int × Bool
  | 0 => s
  | c + 1 =>
    let r := lessB o L x i s c
    let m := o.mul r.2 (L (i + 1 + c) i) (x (i + 1 + c))
    o.sub m.2 r.1 m.1
def bwdN (o : Ops) (L : Mx) (n : Nat) (st : (Nat → Int) × Bool) : Nat → (Nat → Int) × Bool
  | 0 => st
  | t + 1 =>
    let r := bwdN o L n st t
    let s := lessB o L r.1 (n - 1 - t) (r.1 (n - 1 - t), r.2) t
    let d := o.div s.2 s.1 (L (n - 1 - t) (n - 1 - t))
    (setR r.1 (n - 1 - t) d.1, d.2)
def solve0 (o : Ops) (b : Bool) (l : M6) (y : R6) (n : Nat) : (Nat → Int) × Bool := bwdN o l.at n (fwdN o l.at y.at b n) n
def sumN (o : Ops) (a b : Nat → Int) (f : Bool) : Nat → Int × Bool
  | 0 => (0, f)
  | k + 1 =>
    let r := sumN o a b f k
    let m := o.mul r.2 (a k) (b k)
    o.add m.2 r.1 m.1
def appN (o : Ops) (m : Mx) (b : Nat → Int) (n : Nat) (f : Bool) : Nat → (Nat → Int) × Bool
  | 0 => (fun _ => 0, f)
  | i + 1 =>
    let r := appN o m b n f i
    let s := sumN o (m i) b r.2 n
    (setR r.1 i s.1, s.2)
def doneM (r : Mx × Bool) : M6 × Bool := (bif r.2 then M6.zero else M6.of r.1, r.2)
def doneR (r : (Nat → Int) × Bool) : R6 × Bool := (bif r.2 then R6.zero else R6.of r.1, r.2)
def byN {ω : Type} (z : ω) (n : Int) (b : Bool) (F : Nat → ω × Bool) : ω × Bool := bif okN n then (bif b then (z, b) else F n.toNat) else (z, true)
def matSolve (o : Ops) (b : Bool) (p : M6 × R6 × Int × Unit) : R6 × Bool := byN R6.zero p.2.2.1 b fun n => doneR (solve0 o b p.1 p.2.1 n)
def matApply (o : Ops) (b : Bool) (p : M6 × R6 × Int × Unit) : R6 × Bool := byN R6.zero p.2.2.1 b fun n => doneR (appN o p.1.at p.2.1.at n b n)
def doneMT (e : TypeId) (r : Mx × Bool) : Option (AV × List Con) := bif r.2 then some (.val (Cod.enc M6.zero), row e r.2) else some (.val (Cod.enc (M6.of r.1)), row e r.2)
def doneRT (e : TypeId) (r : (Nat → Int) × Bool) : Option (AV × List Con) := bif r.2 then some (.val (Cod.enc R6.zero), row e r.2) else some (.val (Cod.enc (R6.of r.1)), row e r.2)
def solveT (o : Ops) (e : TypeId) (b : Bool) (l : M6) (y : R6) (k : Nat) : Option (AV × List Con) := bif !!b then some (.val (Cod.enc R6.zero), row e b) else doneRT e (solve0 o b l y k)
def applyT (o : Ops) (e : TypeId) (b : Bool) (l : M6) (y : R6) (k : Nat) : Option (AV × List Con) := bif !!b then some (.val (Cod.enc R6.zero), row e b) else doneRT e (appN o l.at y.at k b k)
end Go.Ab
/- A count that is none; how the counts are put together. -/
namespace Go.Ab
open Go Go.Proofs
theorem S_join {α ω : Type} [Args α] [Cod ω] {P : Program} {f : FuncId} {e : TypeId} {g : Bool → α → ω × Bool} (h : ∀ a, ∃ pre : α → Bool, pre a = true ∧ SumOk P f (Sc e pre g)) : SumOk P f (S e g) := by
  intro args cs r cs' hs
  unfold S at hs
  split at hs
  · rename_i r0 e' b
    split at hs
    · rename_i a h1 h2
      obtain ⟨pre, h3, h4⟩ := h a
      refine h4 _ _ _ _ ?_
      unfold Sc
      simp only [h1, h2, STr.sel, h3, cond_true]
      simpa only [STr.sel] using hs
    · simp [STr.sel] at hs
  · simp [STr.sel] at hs
/-- A hint that has no word. -/
def mute : Hints := [(0, fun _ => .no)]
theorem muteFit {P : Program} {f : FuncId} : ∀ fn c, P.funcs[f]? = some fn → fn.body = some c → HFit P fn.ntmps mute c := by
  intro fn c _ _
  refine HFit.of fun p _ h hh s s' hs => ?_
  unfold mute at hh
  simp only [findH] at hh
  split at hh
  · cases hh
    cases hs
  · cases hh
def badT (e : TypeId) (z : Value) (b : Bool) (n : Int) : Option (AV × List Con) :=
  bif decide (n < 1) then some (.val z, row e true) else bif decide (n > 6) then some (.val z, row e true) else bif !!b then some (.val z, row e b) else none
theorem badT_eq {e : TypeId} {z : Value} {b : Bool} {n : Int} (h : okN n = false) : badT e z b n = some (.val z, row e true) := by
  unfold okN at h
  unfold badT
  by_cases h1 : n < 1
  · rw [decide_eq_true h1]; rfl
  · rw [decide_eq_false h1, cond_false]
    rw [decide_eq_true (p := 1 ≤ n) (by omega), Bool.true_and, decide_eq_false_iff_not] at h
    rw [decide_eq_true (p := n > 6) (by omega)]
    rfl
theorem okN_cases {n : Int} (h : okN n = true) : n = 1 ∨ n = 2 ∨ n = 3 ∨ n = 4 ∨ n = 5 ∨ n = 6 := by
  unfold okN at h
  simp only [Bool.and_eq_true, decide_eq_true_eq] at h
  omega
theorem doneMT_eq (e : TypeId) (r : Mx × Bool) : doneMT e r = some (.val (Cod.enc (doneM r).1), row e (doneM r).2) := pull
theorem doneRT_eq (e : TypeId) (r : (Nat → Int) × Bool) : doneRT e r = some (.val (Cod.enc (doneR r).1), row e (doneR r).2) := pull
theorem byN_no {ω : Type} (z : ω) {n : Int} (b : Bool) (F : Nat → ω × Bool) (h : okN n = false) : byN z n b F = (z, true) := by unfold byN; rw [h]; rfl
theorem endT_eq {ω : Type} [Cod ω] (e : TypeId) (z : ω) (b : Bool) (r : ω × Bool) : (bif !!b then some (AV.val (Cod.enc z), row e b) else some (AV.val (Cod.enc r.1), row e r.2)) = some (AV.val (Cod.enc (bif b then (z, b) else r).1), row e (bif b then (z, b) else r).2) := by
  cases b <;> rfl
end Go.Ab
/- root: the summaries of both packages. -/
namespace Go.Ab
open Go Go.Proofs
def matRootN (o : Ops) (b : Bool) (p : M6 × Int × Unit) : M6 × Bool := byN M6.zero p.2.1 b fun n => doneM (rootRows o p.1.at b n)
theorem root64_bad (o : Ops) (b : Bool) (m : M6) (n : Int) : fnSum Try.prog (envM o) mute 20 81 [.ptr 0 0, .val (Cod.enc m), .val (.int .i64 n)] (row 25 b) = badT 25 (Cod.enc M6.zero) b n := by kernel_rfl
theorem ok64 : SumOk Try.prog 81 (S 25 (matRootN opsF)) := by
  refine S_join fun (a : M6 × Int × Unit) => ?_
  cases hn : okN a.2.1 with
  | false =>
    refine ⟨fun p => !okN p.2.1, by simp only [hn, Bool.not_false], ?_⟩
    refine Sc_okH (E := envM opsF) gamN_ok (hB := mute) muteFit 20 fun b p hp => ?_
    obtain ⟨m, n, _⟩ := p
    have hp' : okN n = false := by simpa using hp
    refine ((root64_bad opsF b m n).trans (badT_eq hp')).trans ?_
    show _ = some (AV.val (Cod.enc (byN M6.zero n b _).1), row 25 (byN M6.zero n b _).2)
    rw [byN_no _ _ _ hp']
  | true =>
    rcases okN_cases hn with h | h | h | h | h | h
    · refine ⟨fun p => decide (p.2.1 = 1), by simp only [h, decide_true], ?_⟩
      refine Sc_ok (E := envM opsF) gamN_ok 20 fun b p hp => ?_
      obtain ⟨m, n, _⟩ := p
      have hp' : n = 1 := by simpa using hp
      subst hp'
      refine (root64_1 opsF b m).trans ?_
      unfold rootT
      exact (congrArg (fun x => bif !!b then some (AV.val (Cod.enc M6.zero), row 25 b) else x) (doneMT_eq 25 (rootRows opsF m.at b 1))).trans (endT_eq 25 M6.zero b (doneM (rootRows opsF m.at b 1)))
    · refine ⟨fun p => decide (p.2.1 = 2), by simp only [h, decide_true], ?_⟩
      refine Sc_ok (E := envM opsF) gamN_ok 20 fun b p hp => ?_
      obtain ⟨m, n, _⟩ := p
      have hp' : n = 2 := by simpa using hp
      subst hp'
      refine (root64_2 opsF b m).trans ?_
      unfold rootT
      exact (congrArg (fun x => bif !!b then some (AV.val (Cod.enc M6.zero), row 25 b) else x) (doneMT_eq 25 (rootRows opsF m.at b 2))).trans (endT_eq 25 M6.zero b (doneM (rootRows opsF m.at b 2)))
    · refine ⟨fun p => decide (p.2.1 = 3), by simp only [h, decide_true], ?_⟩
      refine Sc_ok (E := envM opsF) gamN_ok 20 fun b p hp => ?_
      obtain ⟨m, n, _⟩ := p
      have hp' : n = 3 := by simpa using hp
      subst hp'
      refine (root64_3 opsF b m).trans ?_
      unfold rootT
      exact (congrArg (fun x => bif !!b then some (AV.val (Cod.enc M6.zero), row 25 b) else x) (doneMT_eq 25 (rootRows opsF m.at b 3))).trans (endT_eq 25 M6.zero b (doneM (rootRows opsF m.at b 3)))
    · refine ⟨fun p => decide (p.2.1 = 4), by simp only [h, decide_true], ?_⟩
      refine Sc_ok (E := envM opsF) gamN_ok 20 fun b p hp => ?_
      obtain ⟨m, n, _⟩ := p
      have hp' : n = 4 := by simpa using hp
      subst hp'
      refine (root64_4 opsF b m).trans ?_
      unfold rootT
      exact (congrArg (fun x => bif !!b then some (AV.val (Cod.enc M6.zero), row 25 b) else x) (doneMT_eq 25 (rootRows opsF m.at b 4))).trans (endT_eq 25 M6.zero b (doneM (rootRows opsF m.at b 4)))
    · refine ⟨fun p => decide (p.2.1 = 5), by simp only [h, decide_true], ?_⟩
      refine Sc_ok (E := envM opsF) gamN_ok 20 fun b p hp => ?_
      obtain ⟨m, n, _⟩ := p
      have hp' : n = 5 := by simpa using hp
      subst hp'
      refine (root64_5 opsF b m).trans ?_
      unfold rootT
      exact (congrArg (fun x => bif !!b then some (AV.val (Cod.enc M6.zero), row 25 b) else x) (doneMT_eq 25 (rootRows opsF m.at b 5))).trans (endT_eq 25 M6.zero b (doneM (rootRows opsF m.at b 5)))
    · refine ⟨fun p => decide (p.2.1 = 6), by simp only [h, decide_true], ?_⟩
      refine Sc_ok (E := envM opsF) gamN_ok 20 fun b p hp => ?_
      obtain ⟨m, n, _⟩ := p
      have hp' : n = 6 := by simpa using hp
      subst hp'
      refine (root64_6 opsF b m).trans ?_
      unfold rootT
      exact (congrArg (fun x => bif !!b then some (AV.val (Cod.enc M6.zero), row 25 b) else x) (doneMT_eq 25 (rootRows opsF m.at b 6))).trans (endT_eq 25 M6.zero b (doneM (rootRows opsF m.at b 6)))
end Go.Ab
/- The filter's points: trees of both packages. -/
namespace Go.Ab
open Go Go.Proofs
structure Gs where
  q : V4
  bias : V3
  p : M6
def m6c (m : M6) : List Value := m.a.cells ++ (m.b.cells ++ (m.c.cells ++ (m.d.cells ++ (m.e.cells ++ (m.f.cells ++ [])))))
def M6.dec : List Value → Option M6 := fun l => match (Cod.dec (α := M6) (.agg ⟨l⟩)) with | some m => some m | none => none
theorem M6.dec_law {l : List Value} {m : M6} (h : M6.dec l = some m) : l = m6c m := by
  unfold M6.dec at h
  split at h
  · rename_i m' hm
    cases h
    have := Cod.law _ _ hm
    injection this with h1
    injection h1
  · cases h
instance : Cod Gs where
  enc g := .agg ⟨.int .i64 g.q.w :: .int .i64 g.q.x :: .int .i64 g.q.y :: .int .i64 g.q.z :: .int .i64 g.bias.x :: .int .i64 g.bias.y :: .int .i64 g.bias.z :: m6c g.p⟩
  dec v := match v with
    | .agg ⟨.int .i64 a :: .int .i64 b :: .int .i64 c :: .int .i64 d :: .int .i64 x :: .int .i64 y :: .int .i64 z :: l⟩ => match M6.dec l with
      | some m => some ⟨⟨a, b, c, d⟩, ⟨x, y, z⟩, m⟩
      | none => none
    | _ => none
  law v g h := by
    split at h
    · split at h
      · rename_i hm
        cases h
        rw [M6.dec_law hm]
      · cases h
    · cases h
structure X13 where
  (r0 r1 r2 r3 r4 r5 r6 r7 r8 r9 r10 r11 r12 : R6)
def cellsL : List R6 → List Value
  | [] => []
  | r :: t => r.cells ++ cellsL t
def sixs : Nat → List Value → Option (List R6)
  | _, [] => some []
  | 0, _ :: _ => none
  | n + 1, l => match six l with
    | some (r, t) => match sixs n t with
      | some rs => some (r :: rs)
      | none => none
    | none => none
theorem sixs_law : ∀ {n : Nat} {l : List Value} {rs : List R6}, sixs n l = some rs → l = cellsL rs
  | 0, [], rs, h => by simp only [sixs, Option.some.injEq] at h; subst h; rfl
  | n + 1, [], rs, h => by simp only [sixs, Option.some.injEq] at h; subst h; rfl
  | 0, v :: t, rs, h => by simp [sixs] at h
  | n + 1, v :: t, rs, h => by
    simp only [sixs] at h
    split at h
    · rename_i r t' h1
      split at h
      · rename_i rs' h2
        cases h
        rw [six_law h1, sixs_law h2]
        rfl
      · cases h
    · cases h
def X13.rows (x : X13) : List R6 := [x.r0, x.r1, x.r2, x.r3, x.r4, x.r5, x.r6, x.r7, x.r8, x.r9, x.r10, x.r11, x.r12]
instance : Cod X13 where
  enc x := .agg ⟨cellsL x.rows⟩
  dec v := match v with
    | .agg ⟨l⟩ => match sixs 13 l with
      | some [r0, r1, r2, r3, r4, r5, r6, r7, r8, r9, r10, r11, r12] => some ⟨r0, r1, r2, r3, r4, r5, r6, r7, r8, r9, r10, r11, r12⟩
      | _ => none
    | _ => none
  law v x h := by
    split at h
    · split at h
      · rename_i hs
        cases h
        rw [sixs_law hs]
        rfl
      · cases h
    · cases h
def x13of (X : Mx) : X13 := ⟨R6.of (X 0), R6.of (X 1), R6.of (X 2), R6.of (X 3), R6.of (X 4), R6.of (X 5), R6.of (X 6), R6.of (X 7), R6.of (X 8), R6.of (X 9), R6.of (X 10), R6.of (X 11), R6.of (X 12)⟩
def x13z : X13 := x13of mx0
def start (q : V4) : Gs := ⟨q, V3.zero, ⟨⟨17179869184, 0, 0, 0, 0, 0⟩, ⟨0, 17179869184, 0, 0, 0, 0⟩, ⟨0, 0, 17179869184, 0, 0, 0⟩, ⟨0, 0, 0, 16777216, 0, 0⟩, ⟨0, 0, 0, 0, 16777216, 0⟩, ⟨0, 0, 0, 0, 0, 16777216⟩⟩⟩
theorem start105 (q : V4) : fnSum Try.prog { gam := [] } [] 20 45 [.val (Cod.enc q)] [] = some (.val (Cod.enc (start q)), []) := by kernel_rfl
def spread (o : Ops) (b : Bool) (g : Gs) : Int × Bool := o.add (o.add b g.p.a.a g.p.b.b).2 (o.add b g.p.a.a g.p.b.b).1 g.p.c.c
theorem spread109 (o : Ops) (b : Bool) (g : Gs) : fnSum Try.prog { gam := gamN o } [] 20 49 [.ptr 0 0, .val (Cod.enc g)] (row 25 b) = some (.val (.int .i64 (spread o b g).1), row 25 (spread o b g).2) := by kernel_rfl
def jobsP : List (Nat × Nat) := [(0, 0), (0, 1), (0, 2), (0, 3), (0, 4), (0, 5), (1, 0), (1, 1), (1, 2), (1, 3), (1, 4), (1, 5), (2, 0), (2, 1), (2, 2), (2, 3), (2, 4), (2, 5), (3, 0), (3, 1), (3, 2), (3, 3), (3, 4), (3, 5), (4, 0), (4, 1), (4, 2), (4, 3), (4, 4), (4, 5), (5, 0), (5, 1), (5, 2), (5, 3), (5, 4), (5, 5)]
def runJ (o : Ops) (c : Int) (l : Mx) : List (Nat × Nat) → Mx × Bool → Mx × Bool
  | [], st => st
  | (i, k) :: r, st =>
    let d := o.mul st.2 c (l i k)
    runJ o c l r (setM (setM st.1 (1 + k) i d.1) (7 + k) i (IntKind.i64.wrap (0 - d.1)), d.2)
def points0 (o : Ops) (rt : Bool → M6 × Int × Unit → M6 × Bool) (J : List (Nat × Nat)) (b : Bool) (g : Gs) : Mx × Bool :=
  let l := rt b (g.p, 6, ())
  let c := o.sqrt l.2 7696581394432
  runJ o c.1 l.1.at J (mx0, c.2)
def pointsT (e : TypeId) (r : Mx × Bool) : Option (AV × List Con) := bif r.2 then some (.val (Cod.enc x13z), row e r.2) else some (.val (Cod.enc (x13of r.1)), row e r.2)
theorem points107 (o : Ops) (rt : Bool → M6 × Int × Unit → M6 × Bool) (b : Bool) (g : Gs) : fnSum Try.prog { gam := (81, S 25 rt) :: gamN o } [] 20 47 [.ptr 0 0, .val (Cod.enc g)] (row 25 b) = pointsT 25 (points0 o rt jobsP b g) := by kernel_rfl
end Go.Ab
/- The filter's points are the document's. -/
namespace Go.Ab
open Go Go.Proofs
def restJ (o : Ops) (J : List (Nat × Nat)) (c : Int × Bool) (l : Mx) : X13 × Bool :=
  let r := runJ o c.1 l J (mx0, c.2)
  (bif r.2 then x13z else x13of r.1, r.2)
def pointsJ (o : Ops) (rt : Bool → M6 × Int × Unit → M6 × Bool) (J : List (Nat × Nat)) (b : Bool) (g : Gs) : X13 × Bool :=
  restJ o J (o.sqrt (rt b (g.p, 6, ())).2 7696581394432) (rt b (g.p, 6, ())).1.at
theorem pointsT_J (o : Ops) (rt : Bool → M6 × Int × Unit → M6 × Bool) (J : List (Nat × Nat)) (e : TypeId) (b : Bool) (g : Gs) :
    pointsT e (points0 o rt J b g) = some (.val (Cod.enc (pointsJ o rt J b g).1), row e (pointsJ o rt J b g).2) := by
  unfold pointsJ restJ points0 pointsT
  dsimp only
  generalize runJ o _ _ J _ = r
  obtain ⟨X, f⟩ := r
  cases f <;> rfl
theorem ok107 : SumOk Try.prog 47 (S 25 fun b (p : Gs × Unit) => pointsJ opsF (matRootN opsF) jobsP b p.1) :=
  S_ok (E := { gam := (81, S 25 (matRootN opsF)) :: gamN opsF }) (.cons ok64 gamN_ok) 20 fun b a =>
    (points107 opsF (matRootN opsF) b a.1).trans (pointsT_J opsF (matRootN opsF) jobsP 25 b a.1)
theorem ok105 : SumOk Try.prog 45 (S0 fun (p : V4 × Unit) => start p.1) := S0_ok (E := { gam := [] }) GamOk.nil 20 fun a => start105 a.1
theorem ok109 : SumOk Try.prog 49 (S 25 fun b (p : Gs × Unit) => spread opsF b p.1) := S_ok gamN_ok 20 fun b a => spread109 opsF b a.1
end Go.Ab
/- Attitudes: products, what goes back, turns: trees of both packages. -/
namespace Go.Ab
open Go Go.Proofs
def V4.zero : V4 := ⟨0, 0, 0, 0⟩
/-- The vector of an attitude (its first three numbers), and its last number. -/
def V4.v (q : V4) : V3 := ⟨q.w, q.x, q.y⟩
def V4.s (q : V4) : Int := q.z
def mk4 (a : V3) (s : Int) : V4 := ⟨a.x, a.y, a.z, s⟩
def gamNV (o : Ops) (v : VOps) : Gam := gamN o ++ gamV v
theorem gamNV_ok : GamOk Try.prog (gamNV opsF vopsF) := GamOk.append gamN_ok gamV_ok
def qmulW (o : Ops) (v : VOps) (p q : V4) (r : V3) (f : Bool) : V4 × Bool :=
  let st := o.mul f p.s q.s
  let d := v.dot st.2 (p.v, q.v, ())
  let w := o.sub d.2 st.1 d.1
  (mk4 r w.1, w.2)
def qmulP (o : Ops) (v : VOps) (p q : V4) (b : Bool) : V4 × Bool :=
  let x := v.scale b (p.v, q.s, ())
  let y := v.scale x.2 (q.v, p.s, ())
  let s := v.add y.2 (x.1, y.1, ())
  let z := v.cross s.2 (q.v, p.v, ())
  let r := v.add z.2 (s.1, z.1, ())
  qmulW o v p q r.1 r.2
def done4 (r : V4 × Bool) : V4 × Bool := (bif r.2 then V4.zero else r.1, r.2)
theorem mul92 (o : Ops) (v : VOps) (b : Bool) (p q : V4) : fnSum Try.prog { gam := gamNV o v } [] 20 41 [.ptr 0 0, .val (Cod.enc p), .val (Cod.enc q)] (row 25 b) =
    some (.val (Cod.enc (done4 (qmulP o v p q b)).1), row 25 (done4 (qmulP o v p q b)).2) := by
  refine Eq.trans (?_ : _ = bif (qmulP o v p q b).2 then some (.val (Cod.enc V4.zero), row 25 (qmulP o v p q b).2) else some (.val (Cod.enc (qmulP o v p q b).1), row 25 (qmulP o v p q b).2)) pull
  kernel_rfl
def qturn (v : VOps) (b : Bool) (p : V4 × V3 × Unit) : V3 × Bool :=
  let c := v.cross b (p.1.v, p.2.1, ())
  let t := v.scale c.2 (c.1, 2199023255552, ())
  let u := v.scale t.2 (t.1, p.1.s, ())
  let x := v.sub u.2 (p.2.1, u.1, ())
  let y := v.cross x.2 (p.1.v, t.1, ())
  v.add y.2 (x.1, y.1, ())
theorem turn87 (o : Ops) (v : VOps) (b : Bool) (q : V4) (u : V3) : fnSum Try.prog { gam := gamNV o v } [] 20 35 [.ptr 0 0, .val (Cod.enc q), .val (Cod.enc u)] (row 25 b) =
    some (.val (Cod.enc (qturn v b (q, u, ())).1), row 25 (qturn v b (q, u, ())).2) := by kernel_rfl
end Go.Ab
/- Attitudes: products are the document's, in whatever order. -/
namespace Go.Ab
open Go Go.Proofs
def qmul (b : Bool) (p : V4 × V4 × Unit) : V4 × Bool := done4 (qmulP opsF vopsF p.1 p.2.1 b)
theorem ok92 : SumOk Try.prog 41 (S 25 qmul) := S_ok gamNV_ok 20 fun b a => mul92 opsF vopsF b a.1 a.2.1
theorem ok87 : SumOk Try.prog 35 (S 25 (qturn vopsF)) := S_ok gamNV_ok 20 fun b a => turn87 opsF vopsF b a.1 a.2.1
/-- Back. -/
def nb (x : Int) : Int := bif decide (x ≤ 4611686018427387904) then (bif decide (x ≥ -4611686018427387904) then IntKind.i64.wrap (0 - x) else x) else x
def qback (p : V4 × Unit) : V4 := ⟨nb p.1.w, nb p.1.x, nb p.1.y, p.1.z⟩
def nbP {α : Type} (x : Int) (K : Int → α) : α := bif decide (x ≤ 4611686018427387904) then (bif decide (x ≥ -4611686018427387904) then K (IntKind.i64.wrap (0 - x)) else K x) else K x
theorem nbP_eq {α : Type} (x : Int) (K : Int → α) : nbP x K = K (nb x) := by
  unfold nbP nb
  cases decide (x ≤ 4611686018427387904) <;> cases decide (x ≥ -4611686018427387904) <;> rfl
theorem back91 (q : V4) : fnSum Try.prog { gam := [] } [] 20 42 [.val (Cod.enc q)] [] =
    nbP q.w fun w => nbP q.x fun x => nbP q.y fun y => some (.val (Cod.enc (V4.mk w x y q.z)), []) := by kernel_rfl
theorem ok91 : SumOk Try.prog 42 (S0 qback) := S0_ok (E := { gam := [] }) GamOk.nil 20 fun a => by
  refine (back91 a.1).trans ?_
  rw [nbP_eq, nbP_eq, nbP_eq]; rfl
end Go.Ab
/- What the numbers' operations answer: bounds. -/
namespace Go.Ab
open Go Go.Proofs
theorem fnorm_ok {a b c n : Int} (h : fnorm false a b c = (n, false)) : num a = true ∧ num b = true ∧ num c = true ∧ n = isq (a * a + b * b + c * c) ∧ 0 ≤ n ∧ n ≤ 4611686018427387904 := by
  unfold fnorm at h
  cases hb : (false || !nums? [a, b, c]) with
  | true => rw [hb] at h; simp at h
  | false =>
    obtain ⟨_, ha, hb', hc⟩ := nums3 hb
    rw [hb, cond_false] at h
    obtain ⟨a5, a6⟩ := num_sq ha
    obtain ⟨b5, b6⟩ := num_sq hb'
    obtain ⟨c5, c6⟩ := num_sq hc
    have e126 : (2 : Int) ^ 126 = 85070591730234615865843651857942052864 := by decide
    obtain ⟨i0, i1, _, _⟩ := isq_spec (W := a * a + b * b + c * c) (by omega) (by omega)
    by_cases hq : isq (a * a + b * b + c * c) > 4611686018427387904
    · rw [decide_eq_true hq] at h; simp at h
    · rw [decide_eq_false hq, cond_false, Prod.mk.injEq] at h
      exact ⟨ha, hb', hc, h.1.symm, by omega, by omega⟩
theorem fnorm_sq {a b c n : Int} (h : fnorm false a b c = (n, false)) : n * n ≤ a * a + b * b + c * c ∧ a * a + b * b + c * c < (n + 1) * (n + 1) ∧ 0 ≤ a * a + b * b + c * c := by
  obtain ⟨ha, hb, hc, rfl, h0, h1⟩ := fnorm_ok h
  obtain ⟨a5, a6⟩ := num_sq ha
  obtain ⟨b5, b6⟩ := num_sq hb
  obtain ⟨c5, c6⟩ := num_sq hc
  have e126 : (2 : Int) ^ 126 = 85070591730234615865843651857942052864 := by decide
  obtain ⟨i0, i1, i2, i3⟩ := isq_spec (W := a * a + b * b + c * c) (by omega) (by omega)
  exact ⟨i2, i3, by omega⟩
theorem le_of_sq_lt {a n : Int} (h0 : 0 ≤ n) (h : a * a < (n + 1) * (n + 1)) : -n ≤ a ∧ a ≤ n := by
  constructor
  · have : -a < n + 1 := sq_lt_imp (by omega) (by rw [Int.neg_mul_neg]; exact h)
    omega
  · have : a < n + 1 := sq_lt_imp (by omega) h
    omega
theorem sq_nonneg (a : Int) : 0 ≤ a * a := by
  rcases Int.le_total 0 a with h | h
  · exact Int.mul_nonneg h h
  · have := Int.mul_nonneg (a := -a) (b := -a) (by omega) (by omega)
    rwa [Int.neg_mul_neg] at this
theorem fnorm_parts {a b c n : Int} (h : fnorm false a b c = (n, false)) : (-n ≤ a ∧ a ≤ n) ∧ (-n ≤ b ∧ b ≤ n) ∧ (-n ≤ c ∧ c ≤ n) := by
  obtain ⟨_, _, _, _, h0, _⟩ := fnorm_ok h
  obtain ⟨_, h2, _⟩ := fnorm_sq h
  have p := sq_nonneg a
  have q := sq_nonneg b
  have r := sq_nonneg c
  exact ⟨le_of_sq_lt h0 (by omega), le_of_sq_lt h0 (by omega), le_of_sq_lt h0 (by omega)⟩
theorem iabs_le {a n : Int} (h : -n ≤ a ∧ a ≤ n) : iabs a ≤ n := by
  unfold iabs
  by_cases h1 : a < 0
  · simp only [h1, decide_true, cond_true]; omega
  · simp only [h1, decide_false, cond_false]; omega
theorem iabs_nonneg (a : Int) : 0 ≤ iabs a := by
  unfold iabs
  by_cases h1 : a < 0
  · simp only [h1, decide_true, cond_true]; omega
  · simp only [h1, decide_false, cond_false]; omega
theorem iabs_of_nonneg {a : Int} (h : 0 ≤ a) : iabs a = a := by
  unfold iabs
  have h1 : ¬ a < 0 := by omega
  simp only [h1, decide_false, cond_false]
/-- A ratio that fits. -/
def ratio3 (a b c : Int) : Int := bif neg3 a b c then 0 - rnd (iabs a * iabs b) (iabs c) else rnd (iabs a * iabs b) (iabs c)
theorem rnd_spec {N z : Int} (hz : 0 < z) : 2 * N - z ≤ 2 * z * rnd N z ∧ 2 * z * rnd N z ≤ 2 * N + z := by
  have r0 := Int.emod_nonneg N (b := z) (by omega)
  have r1 := Int.emod_lt_of_pos N hz
  have e : N = z * (N / z) + N % z := (Int.mul_ediv_add_emod N z).symm
  unfold rnd
  by_cases h : N % z ≥ z - N % z
  · simp only [h, decide_true, cond_true]
    have : 2 * z * (N / z + 1) = 2 * (z * (N / z)) + 2 * z := by rw [Int.mul_add, Int.mul_one, Int.mul_assoc]
    omega
  · simp only [h, decide_false, cond_false]
    have : 2 * z * (N / z) = 2 * (z * (N / z)) := by rw [Int.mul_assoc]
    omega
theorem rnd_le {N z m : Int} (hz : 0 < z) (h : N ≤ z * m) : rnd N z ≤ m := by
  have r0 := Int.emod_nonneg N (b := z) (by omega)
  have r1 := Int.emod_lt_of_pos N hz
  have e : N = z * (N / z) + N % z := (Int.mul_ediv_add_emod N z).symm
  have hq : N / z ≤ m := by
    have : z * (N / z) ≤ z * m := by omega
    exact Int.le_of_mul_le_mul_left this hz
  unfold rnd
  by_cases h1 : N % z ≥ z - N % z
  · simp only [h1, decide_true, cond_true]
    rcases Int.lt_or_le (N / z) m with h2 | h2
    · omega
    · have : N / z = m := by omega
      rw [this] at e
      omega
  · simp only [h1, decide_false, cond_false]
    exact hq
theorem fratio_ok {a b c : Int} (hc : iabs c ≠ 0) (h : iabs a * iabs b ≤ iabs c * 4611686018427387904) : fratio false a b c = (ratio3 a b c, false) := by
  have c0 := iabs_nonneg c
  have hz : 0 < iabs c := by omega
  have hq : iabs a * iabs b / iabs c ≤ 4611686018427387904 := by
    have := Int.ediv_le_ediv hz h
    rwa [Int.mul_ediv_cancel_left _ (by omega)] at this
  have hr := rnd_le hz h
  unfold fratio ratio3
  have e1 : (iabs c == 0) = false := by simp; exact hc
  have e2 : decide (iabs a * iabs b / iabs c > 4611686018427387904) = false := by simp; omega
  have e3 : decide (rnd (iabs a * iabs b) (iabs c) > 4611686018427387904) = false := by simp; omega
  rw [e1, e2, e3]
  rfl
theorem fdiv_small {x n : Int} (hx : num x = true) (hn : num n = true) (h0 : 0 < n) (h : -n ≤ x ∧ x ≤ n) : fdiv false x n = (ratio3 x 1099511627776 n, false) := by
  have e : (false || !nums? [x, n]) = false := by simp [nums?, hx, hn]
  unfold fdiv
  rw [e, cond_false]
  have e1 : iabs n = n := iabs_of_nonneg (by omega)
  have e2 : iabs 1099511627776 = 1099511627776 := rfl
  refine fratio_ok (by rw [e1]; omega) ?_
  rw [e1, e2]
  have := iabs_le h
  omega
end Go.Ab
/- Attitudes: units. -/
namespace Go.Ab
open Go Go.Proofs
def neg4 (q : V4) : V4 := ⟨IntKind.i64.wrap (0 - q.w), IntKind.i64.wrap (0 - q.x), IntKind.i64.wrap (0 - q.y), IntKind.i64.wrap (0 - q.z)⟩
def plain (q : V4) : V4 := bif decide (q.z < 0) then neg4 q else q
def qunit0 (o : Ops) (q : V4) (n : Int) (f : Bool) : V4 × Bool :=
  let a := o.div f q.w n
  let b := o.div a.2 q.x n
  let c := o.div b.2 q.y n
  let d := o.div c.2 q.z n
  (⟨a.1, b.1, c.1, d.1⟩, d.2)
def qlen (o : Ops) (b : Bool) (q : V4) : Int × Bool := o.norm (o.norm b q.w q.x q.y).2 (o.norm b q.w q.x q.y).1 q.z 0
def qunitF (o : Ops) (q : V4) (n : Int) (f : Bool) : V4 × Bool := (plain (qunit0 o q n f).1, (qunit0 o q n f).2)
def qunit (o : Ops) (b : Bool) (p : V4 × Unit) : V4 × Bool := qunitF o p.1 (qlen o b p.1).1 (bif decide ((qlen o b p.1).1 < 549755813888) then true else (qlen o b p.1).2)
def qunitT (o : Ops) (e : TypeId) (q : V4) (n : Int) (f : Bool) : Option (AV × List Con) :=
  bif decide ((qunit0 o q n f).1.z < 0) then some (.val (Cod.enc (neg4 (qunit0 o q n f).1)), row e (qunit0 o q n f).2) else some (.val (Cod.enc (qunit0 o q n f).1), row e (qunit0 o q n f).2)
theorem qunitT_eq (o : Ops) (e : TypeId) (q : V4) (n : Int) (f : Bool) : qunitT o e q n f = some (.val (Cod.enc (qunitF o q n f).1), row e (qunitF o q n f).2) := pull
theorem unit72 (o : Ops) (b : Bool) (q : V4) : fnSum Try.prog { gam := gamN o } [] 20 38 [.ptr 0 0, .val (Cod.enc q)] (row 25 b) =
    bif decide ((qlen o b q).1 < 549755813888) then qunitT o 25 q (qlen o b q).1 true else qunitT o 25 q (qlen o b q).1 (qlen o b q).2 := by kernel_rfl
theorem ok72 : SumOk Try.prog 38 (S 25 (qunit opsF)) := S_ok gamN_ok 20 fun b a => by
  refine (unit72 opsF b a.1).trans ?_
  rw [qunitT_eq, qunitT_eq]
  exact pull2 (F := qunitF opsF a.1 (qlen opsF b a.1).1)
theorem fnorm_still (a b c : Int) : fnorm true a b c = (0, true) := rfl
/-- A length of four numbers: none of them is above it. -/
theorem qlen_ok {b : Bool} {q : V4} {n : Int} (h : qlen opsF b q = (n, false)) : b = false ∧ (num q.w = true ∧ num q.x = true ∧ num q.y = true ∧ num q.z = true) ∧
    (-n ≤ q.w ∧ q.w ≤ n) ∧ (-n ≤ q.x ∧ q.x ≤ n) ∧ (-n ≤ q.y ∧ q.y ≤ n) ∧ (-n ≤ q.z ∧ q.z ≤ n) ∧ 0 ≤ n ∧ n ≤ 4611686018427387904 := by
  unfold qlen at h
  simp only [opsF] at h
  cases b with
  | true => rw [fnorm_still] at h; exact absurd h (by rw [fnorm_still]; simp)
  | false =>
    rcases hm : fnorm false q.w q.x q.y with ⟨m, f⟩
    rw [hm] at h
    cases f with
    | true => exact absurd h (by rw [fnorm_still]; simp)
    | false =>
      obtain ⟨a1, a2, a3, _, a4, a5⟩ := fnorm_ok hm
      obtain ⟨p1, p2, p3⟩ := fnorm_parts hm
      obtain ⟨b1, b2, b3, _, b4, b5⟩ := fnorm_ok h
      obtain ⟨r1, r2, r3⟩ := fnorm_parts h
      exact ⟨rfl, ⟨a1, a2, a3, b2⟩, by omega, by omega, by omega, r2, b4, b5⟩
end Go.Ab
/- Attitudes of Rodrigues vectors, and back. -/
namespace Go.Ab
open Go Go.Proofs
def muldiv (o : Ops) (k e : Int) (x : Int) (f : Bool) : Int × Bool := o.div (o.mul f x k).2 (o.mul f x k).1 e
def rod0 (o : Ops) (p : V3) (d e : Int) (f : Bool) : V4 × Bool :=
  let r := each3 f (muldiv o 8796093022208 e p.x) (muldiv o 8796093022208 e p.y) (muldiv o 8796093022208 e p.z)
  let s := o.sub r.2 17592186044416 d
  let w := o.div s.2 s.1 e
  (mk4 r.1 w.1, w.2)
def rodAt (o : Ops) (v : VOps) (b : Bool) (p : V3) : V4 × Bool :=
  let d := v.dot b (p, p, ())
  let e := o.add d.2 17592186044416 d.1
  rod0 o p d.1 e.1 e.2
def fromRod (o : Ops) (v : VOps) (un : Bool → V4 × Unit → V4 × Bool) (b : Bool) (p : V3 × Unit) : V4 × Bool := un (rodAt o v b p.1).2 ((rodAt o v b p.1).1, ())
theorem rod80 (o : Ops) (v : VOps) (un : Bool → V4 × Unit → V4 × Bool) (b : Bool) (p : V3) : fnSum Try.prog { gam := (38, S 25 un) :: gamNV o v } [] 20 55 [.ptr 0 0, .val (Cod.enc p)] (row 25 b) =
    some (.val (Cod.enc (fromRod o v un b (p, ())).1), row 25 (fromRod o v un b (p, ())).2) := by kernel_rfl
def add4 (o : Ops) (q : V4) (b : Bool) : Bool := (o.add (o.add (o.add (o.add b q.w 0).2 q.x 0).2 q.y 0).2 q.z 0).2
def torod0 (o : Ops) (q : V4) (f : Bool) : V3 × Bool :=
  let e := o.add f 1099511627776 q.z
  each3 e.2 (muldiv o 4398046511104 e.1 q.w) (muldiv o 4398046511104 e.1 q.x) (muldiv o 4398046511104 e.1 q.y)
def torodT (o : Ops) (e : TypeId) (q : V4) (f : Bool) : Option (AV × List Con) :=
  bif (torod0 o q f).2 then some (.val (Cod.enc V3.zero), row e (torod0 o q f).2) else some (.val (Cod.enc (torod0 o q f).1), row e (torod0 o q f).2)
theorem torodT_eq (o : Ops) (e : TypeId) (q : V4) (f : Bool) : torodT o e q f = some (.val (Cod.enc (done3 (torod0 o q f)).1), row e (done3 (torod0 o q f)).2) := pull
def toRod (o : Ops) (b : Bool) (p : V4 × Unit) : V3 × Bool := bif add4 o p.1 b then (V3.zero, add4 o p.1 b) else done3 (torod0 o (plain p.1) (add4 o p.1 b))
def torodS (o : Ops) (e : TypeId) (q : V4) (b : Bool) : Option (AV × List Con) :=
  bif add4 o q b then some (.val (Cod.enc V3.zero), row e (add4 o q b)) else bif decide (q.z < 0) then torodT o e (neg4 q) (add4 o q b) else torodT o e q (add4 o q b)
theorem torodS_eq (o : Ops) (e : TypeId) (q : V4) (b : Bool) : torodS o e q b = some (.val (Cod.enc (toRod o b (q, ())).1), row e (toRod o b (q, ())).2) := by
  unfold torodS toRod plain
  rw [torodT_eq, torodT_eq]
  dsimp only
  cases add4 o q b <;> cases decide (q.z < 0) <;> rfl
theorem torod82 (o : Ops) (b : Bool) (q : V4) : fnSum Try.prog { gam := gamN o } [] 20 56 [.ptr 0 0, .val (Cod.enc q)] (row 25 b) = torodS o 25 q b := by kernel_rfl
theorem ok80 : SumOk Try.prog 55 (S 25 (fromRod opsF vopsF (qunit opsF))) := S_ok (E := { gam := (38, S 25 (qunit opsF)) :: gamNV opsF vopsF }) (.cons ok72 gamNV_ok) 20 fun b a => rod80 opsF vopsF (qunit opsF) b a.1
theorem ok82 : SumOk Try.prog 56 (S 25 (toRod opsF)) := S_ok gamN_ok 20 fun b a => (torod82 opsF b a.1).trans (torodS_eq opsF 25 a.1 b)
end Go.Ab
/- The filter's rows: less their mean (center). -/
namespace Go.Ab
open Go Go.Proofs
def addN (o : Ops) (v : Nat → Int) : Nat → Nat → Int × Bool → Int × Bool
  | _, 0, s => s
  | k, n + 1, s => addN o v (k + 1) n (o.add s.2 s.1 (v k))
/-- The mean of thirteen numbers, the first one twice. -/
def meanO (o : Ops) (b : Bool) (v : Nat → Int) : Int × Bool :=
  let s := addN o v 1 12 (o.add b (v 0) (v 0))
  o.part s.2 s.1 1 14
def cells13 (x : Mx) : List AV := (nums 0 78).map fun j => .val (.int .i64 (x (j / 6) (j % 6)))
def subRow (o : Ops) (m : Nat → Int) (k : Nat) : Nat → Nat → Mx × Bool → Mx × Bool
  | _, 0, s => s
  | i, n + 1, s => subRow o m k (i + 1) n (setM s.1 k i (o.sub s.2 (s.1 k i) (m i)).1, (o.sub s.2 (s.1 k i) (m i)).2)
noncomputable def ctC : Code := Try.f107.body.getD .skip
noncomputable def ct0 : Code := seqL ctC
noncomputable def ct1 : Code := seqL (seqR ctC)
noncomputable def ctA : Code := seqL (seqR (seqR ctC))
noncomputable def ct2 : Code := seqL ctA
noncomputable def ctL : Code := inB (inB (seqR ctA))
noncomputable def ctB : Code := seqL (seqR (seqR (seqR ctC)))
noncomputable def ct7 : Code := seqL ctB
noncomputable def ctM : Code := inB (inB (seqR ctB))
noncomputable def ctE : Code := seqR (seqR (seqR (seqR ctC)))
theorem ctC_is : Try.f107.body = some (.seq ct0 (.seq ct1 (.seq (.seq ct2 (.block 0 (.loop ctL))) (.seq (.seq ct7 (.block 2 (.loop ctM))) ctE)))) := by kernel_rfl
theorem ctN : Try.f107.ntmps = 45 := by kernel_rfl
abbrev nA : Nat := 4096
abbrev nB : Nat := 4096 + 2 ^ 180
abbrev nC : Nat := 4096 + 2 * 2 ^ 180
abbrev nD : Nat := 4096 + 3 * 2 ^ 180
def ctH (x : Mx) (m : Nat → Int) (b : Bool) : Hp := [(0, .row 111 (cells13 x)), (1, .row 25 [.val (.bool b)]), (nA, .row 119 [.ptr 0 0]), (nB, .row 45 (ints 6 fun _ => 0)), (nC, .row 45 (ints 6 m))]
def ctS (t : Nat) (i : Int) (x : Mx) (m : Nat → Int) (b : Bool) : St := gSt 45 [(1, .ptr 1 0), (2, .ptr nA 0), (4, .ptr nB 0), (5, .ptr nC 0), (t, .val (.int .i64 i))] (ctH x m b) nD
abbrev ctK : List Nat := [0, 1, nA, nB, nC]
abbrev ctT (t : Nat) : List Nat := [1, 2, 4, 5, t]
section
variable (o : Ops) (x : Mx) (m : Nat → Int) (b : Bool)
def ctS0 (x : Mx) (b : Bool) : St := gSt 45 [(1, .ptr 1 0), (2, .ptr nA 0), (4, .ptr nB 0)] [(0, .row 111 (cells13 x)), (1, .row 25 [.val (.bool b)]), (nA, .row 119 [.ptr 0 0]), (nB, .row 45 (ints 6 fun _ => 0))] nC
def ctS1 (x : Mx) (b : Bool) : St := gSt 45 [(1, .ptr 1 0), (2, .ptr nA 0), (4, .ptr nB 0), (5, .ptr nC 0)] (ctH x (fun _ => 0) b) nD
theorem cq0 : gRun Try.prog { gam := gamN o } 45 ct0 (startS 45 [.ptr 0 0, .ptr 1 0] [.row 111 (cells13 x), .row 25 [.val (.bool b)]]) [0, 1, nA, nB] [1, 2, 4] = some (.normal, ctS0 x b) := by kernel_rfl
theorem cq1 : gRun Try.prog { gam := gamN o } 45 ct1 (ctS0 x b) ctK [1, 2, 4, 5] = some (.normal, ctS1 x b) := by kernel_rfl
theorem cq2 : gRun Try.prog { gam := gamN o } 45 ct2 (ctS1 x b) ctK (ctT 9) = some (.normal, ctS 9 0 x (fun _ => 0) b) := by kernel_rfl
theorem cqA_0 : gCut Try.prog { gam := gamN o } 45 ctL (ctS 9 0 x m b) nD ctK (ctT 9) = some (.normal, ctS 9 1 x (setR m 0 (meanO o b fun k => x k 0).1) (meanO o b fun k => x k 0).2) := by kernel_rfl
theorem cqA_1 : gCut Try.prog { gam := gamN o } 45 ctL (ctS 9 1 x m b) nD ctK (ctT 9) = some (.normal, ctS 9 2 x (setR m 1 (meanO o b fun k => x k 1).1) (meanO o b fun k => x k 1).2) := by kernel_rfl
theorem cqA_2 : gCut Try.prog { gam := gamN o } 45 ctL (ctS 9 2 x m b) nD ctK (ctT 9) = some (.normal, ctS 9 3 x (setR m 2 (meanO o b fun k => x k 2).1) (meanO o b fun k => x k 2).2) := by kernel_rfl
theorem cqA_3 : gCut Try.prog { gam := gamN o } 45 ctL (ctS 9 3 x m b) nD ctK (ctT 9) = some (.normal, ctS 9 4 x (setR m 3 (meanO o b fun k => x k 3).1) (meanO o b fun k => x k 3).2) := by kernel_rfl
theorem cqA_4 : gCut Try.prog { gam := gamN o } 45 ctL (ctS 9 4 x m b) nD ctK (ctT 9) = some (.normal, ctS 9 5 x (setR m 4 (meanO o b fun k => x k 4).1) (meanO o b fun k => x k 4).2) := by kernel_rfl
theorem cqA_5 : gCut Try.prog { gam := gamN o } 45 ctL (ctS 9 5 x m b) nD ctK (ctT 9) = some (.normal, ctS 9 6 x (setR m 5 (meanO o b fun k => x k 5).1) (meanO o b fun k => x k 5).2) := by kernel_rfl
theorem cqA_6 : gCut Try.prog { gam := gamN o } 45 ctL (ctS 9 6 x m b) nD ctK (ctT 9) = some (.exit 0, ctS 9 6 x m b) := by kernel_rfl
theorem cq7 : gCut Try.prog { gam := gamN o } 45 ct7 (ctS 9 6 x m b) nD ctK (ctT 18) = some (.normal, ctS 18 0 x m b) := by kernel_rfl
theorem cqM_0 : gCut Try.prog { gam := gamN o } 45 ctM (ctS 18 0 x m b) nD ctK (ctT 18) = some (.normal, ctS 18 1 (subRow o m 0 0 6 (x, b)).1 m (subRow o m 0 0 6 (x, b)).2) := by kernel_rfl
theorem cqM_1 : gCut Try.prog { gam := gamN o } 45 ctM (ctS 18 1 x m b) nD ctK (ctT 18) = some (.normal, ctS 18 2 (subRow o m 1 0 6 (x, b)).1 m (subRow o m 1 0 6 (x, b)).2) := by kernel_rfl
theorem cqM_2 : gCut Try.prog { gam := gamN o } 45 ctM (ctS 18 2 x m b) nD ctK (ctT 18) = some (.normal, ctS 18 3 (subRow o m 2 0 6 (x, b)).1 m (subRow o m 2 0 6 (x, b)).2) := by kernel_rfl
theorem cqM_3 : gCut Try.prog { gam := gamN o } 45 ctM (ctS 18 3 x m b) nD ctK (ctT 18) = some (.normal, ctS 18 4 (subRow o m 3 0 6 (x, b)).1 m (subRow o m 3 0 6 (x, b)).2) := by kernel_rfl
theorem cqM_4 : gCut Try.prog { gam := gamN o } 45 ctM (ctS 18 4 x m b) nD ctK (ctT 18) = some (.normal, ctS 18 5 (subRow o m 4 0 6 (x, b)).1 m (subRow o m 4 0 6 (x, b)).2) := by kernel_rfl
theorem cqM_5 : gCut Try.prog { gam := gamN o } 45 ctM (ctS 18 5 x m b) nD ctK (ctT 18) = some (.normal, ctS 18 6 (subRow o m 5 0 6 (x, b)).1 m (subRow o m 5 0 6 (x, b)).2) := by kernel_rfl
theorem cqM_6 : gCut Try.prog { gam := gamN o } 45 ctM (ctS 18 6 x m b) nD ctK (ctT 18) = some (.normal, ctS 18 7 (subRow o m 6 0 6 (x, b)).1 m (subRow o m 6 0 6 (x, b)).2) := by kernel_rfl
theorem cqM_7 : gCut Try.prog { gam := gamN o } 45 ctM (ctS 18 7 x m b) nD ctK (ctT 18) = some (.normal, ctS 18 8 (subRow o m 7 0 6 (x, b)).1 m (subRow o m 7 0 6 (x, b)).2) := by kernel_rfl
theorem cqM_8 : gCut Try.prog { gam := gamN o } 45 ctM (ctS 18 8 x m b) nD ctK (ctT 18) = some (.normal, ctS 18 9 (subRow o m 8 0 6 (x, b)).1 m (subRow o m 8 0 6 (x, b)).2) := by kernel_rfl
theorem cqM_9 : gCut Try.prog { gam := gamN o } 45 ctM (ctS 18 9 x m b) nD ctK (ctT 18) = some (.normal, ctS 18 10 (subRow o m 9 0 6 (x, b)).1 m (subRow o m 9 0 6 (x, b)).2) := by kernel_rfl
theorem cqM_10 : gCut Try.prog { gam := gamN o } 45 ctM (ctS 18 10 x m b) nD ctK (ctT 18) = some (.normal, ctS 18 11 (subRow o m 10 0 6 (x, b)).1 m (subRow o m 10 0 6 (x, b)).2) := by kernel_rfl
theorem cqM_11 : gCut Try.prog { gam := gamN o } 45 ctM (ctS 18 11 x m b) nD ctK (ctT 18) = some (.normal, ctS 18 12 (subRow o m 11 0 6 (x, b)).1 m (subRow o m 11 0 6 (x, b)).2) := by kernel_rfl
theorem cqM_12 : gCut Try.prog { gam := gamN o } 45 ctM (ctS 18 12 x m b) nD ctK (ctT 18) = some (.normal, ctS 18 13 (subRow o m 12 0 6 (x, b)).1 m (subRow o m 12 0 6 (x, b)).2) := by kernel_rfl
theorem cqM_13 : gCut Try.prog { gam := gamN o } 45 ctM (ctS 18 13 x m b) nD ctK (ctT 18) = some (.exit 2, ctS 18 13 x m b) := by kernel_rfl
def ctF (x : Mx) (m : Nat → Int) (b : Bool) : St := gSt 45 [(4, .ptr nB 0)] [(0, .row 111 (cells13 x)), (1, .row 25 [.val (.bool b)]), (nB, .row 45 (ints 6 m))] nD
theorem cqE : gRun Try.prog { gam := gamN o } 45 ctE (ctS 18 13 x m b) [0, 1, nB] [4] = some (.ret, ctF x m b) := by kernel_rfl
theorem cqR : resA Try.prog (ctF x m b) Try.f107.results.toList = some [.val (Cod.enc (R6.of m))] := by kernel_rfl
theorem cqc9 (i : Int) : okClean nD (ctS 9 i x m b) = true := by kernel_rfl
theorem cqc18 (i : Int) : okClean nD (ctS 18 i x m b) = true := by kernel_rfl
end
def ctPA (o : Ops) (x : Mx) (i : Nat) (z : (Nat → Int) × Bool) : (Nat → Int) × Bool := (setR z.1 i (meanO o z.2 fun k => x k i).1, (meanO o z.2 fun k => x k i).2)
def ctPM (o : Ops) (m : Nat → Int) (k : Nat) (z : Mx × Bool) : Mx × Bool := subRow o m k 0 6 z
/-- What rows are less their mean, and that. -/
def centerO (o : Ops) (b : Bool) (x : Mx) : (Mx × (Nat → Int)) × Bool :=
  let m := iterF (ctPA o x) 0 6 (fun _ => 0, b)
  let y := iterF (ctPM o m.1) 0 13 (x, m.2)
  ((y.1, m.1), y.2)
theorem ct_lo9 (x : Mx) (m : Nat → Int) (b : Bool) (i : Int) : (ctS 9 i x m b).lo = nD := rfl
theorem ct_lo18 (x : Mx) (m : Nat → Int) (b : Bool) (i : Int) : (ctS 18 i x m b).lo = nD := rfl
theorem ct_hi (t t' : Nat) (x x' : Mx) (m m' : Nat → Int) (b b' : Bool) (i i' : Int) : (ctS t i x m b).hi = (ctS t' i' x' m' b').hi := rfl
section
variable {o : Ops} (hG : GamOk Try.prog ({ gam := gamN o } : Env).gam) (x : Mx) (m : Nat → Int) (b : Bool)
include hG
theorem cuA_0 : RunsTo Try.prog 45 ctL (ctS 9 0 x m b) .normal (ctS 9 1 x (setR m 0 (meanO o b fun k => x k 0).1) (meanO o b fun k => x k 0).2) := gCut_runs hG (cqA_0 o x m b) (ct_lo9 ..) (cqc9 ..) (ct_hi ..)
theorem cuA_1 : RunsTo Try.prog 45 ctL (ctS 9 1 x m b) .normal (ctS 9 2 x (setR m 1 (meanO o b fun k => x k 1).1) (meanO o b fun k => x k 1).2) := gCut_runs hG (cqA_1 o x m b) (ct_lo9 ..) (cqc9 ..) (ct_hi ..)
theorem cuA_2 : RunsTo Try.prog 45 ctL (ctS 9 2 x m b) .normal (ctS 9 3 x (setR m 2 (meanO o b fun k => x k 2).1) (meanO o b fun k => x k 2).2) := gCut_runs hG (cqA_2 o x m b) (ct_lo9 ..) (cqc9 ..) (ct_hi ..)
theorem cuA_3 : RunsTo Try.prog 45 ctL (ctS 9 3 x m b) .normal (ctS 9 4 x (setR m 3 (meanO o b fun k => x k 3).1) (meanO o b fun k => x k 3).2) := gCut_runs hG (cqA_3 o x m b) (ct_lo9 ..) (cqc9 ..) (ct_hi ..)
theorem cuA_4 : RunsTo Try.prog 45 ctL (ctS 9 4 x m b) .normal (ctS 9 5 x (setR m 4 (meanO o b fun k => x k 4).1) (meanO o b fun k => x k 4).2) := gCut_runs hG (cqA_4 o x m b) (ct_lo9 ..) (cqc9 ..) (ct_hi ..)
theorem cuA_5 : RunsTo Try.prog 45 ctL (ctS 9 5 x m b) .normal (ctS 9 6 x (setR m 5 (meanO o b fun k => x k 5).1) (meanO o b fun k => x k 5).2) := gCut_runs hG (cqA_5 o x m b) (ct_lo9 ..) (cqc9 ..) (ct_hi ..)
theorem cuA_6 : RunsTo Try.prog 45 ctL (ctS 9 6 x m b) (.exit 0) (ctS 9 6 x m b) := gCut_runs hG (cqA_6 o x m b) (ct_lo9 ..) (cqc9 ..) (ct_hi ..)
theorem cuM_0 : RunsTo Try.prog 45 ctM (ctS 18 0 x m b) .normal (ctS 18 1 (subRow o m 0 0 6 (x, b)).1 m (subRow o m 0 0 6 (x, b)).2) := gCut_runs hG (cqM_0 o x m b) (ct_lo18 ..) (cqc18 ..) (ct_hi ..)
theorem cuM_1 : RunsTo Try.prog 45 ctM (ctS 18 1 x m b) .normal (ctS 18 2 (subRow o m 1 0 6 (x, b)).1 m (subRow o m 1 0 6 (x, b)).2) := gCut_runs hG (cqM_1 o x m b) (ct_lo18 ..) (cqc18 ..) (ct_hi ..)
theorem cuM_2 : RunsTo Try.prog 45 ctM (ctS 18 2 x m b) .normal (ctS 18 3 (subRow o m 2 0 6 (x, b)).1 m (subRow o m 2 0 6 (x, b)).2) := gCut_runs hG (cqM_2 o x m b) (ct_lo18 ..) (cqc18 ..) (ct_hi ..)
theorem cuM_3 : RunsTo Try.prog 45 ctM (ctS 18 3 x m b) .normal (ctS 18 4 (subRow o m 3 0 6 (x, b)).1 m (subRow o m 3 0 6 (x, b)).2) := gCut_runs hG (cqM_3 o x m b) (ct_lo18 ..) (cqc18 ..) (ct_hi ..)
theorem cuM_4 : RunsTo Try.prog 45 ctM (ctS 18 4 x m b) .normal (ctS 18 5 (subRow o m 4 0 6 (x, b)).1 m (subRow o m 4 0 6 (x, b)).2) := gCut_runs hG (cqM_4 o x m b) (ct_lo18 ..) (cqc18 ..) (ct_hi ..)
theorem cuM_5 : RunsTo Try.prog 45 ctM (ctS 18 5 x m b) .normal (ctS 18 6 (subRow o m 5 0 6 (x, b)).1 m (subRow o m 5 0 6 (x, b)).2) := gCut_runs hG (cqM_5 o x m b) (ct_lo18 ..) (cqc18 ..) (ct_hi ..)
theorem cuM_6 : RunsTo Try.prog 45 ctM (ctS 18 6 x m b) .normal (ctS 18 7 (subRow o m 6 0 6 (x, b)).1 m (subRow o m 6 0 6 (x, b)).2) := gCut_runs hG (cqM_6 o x m b) (ct_lo18 ..) (cqc18 ..) (ct_hi ..)
theorem cuM_7 : RunsTo Try.prog 45 ctM (ctS 18 7 x m b) .normal (ctS 18 8 (subRow o m 7 0 6 (x, b)).1 m (subRow o m 7 0 6 (x, b)).2) := gCut_runs hG (cqM_7 o x m b) (ct_lo18 ..) (cqc18 ..) (ct_hi ..)
theorem cuM_8 : RunsTo Try.prog 45 ctM (ctS 18 8 x m b) .normal (ctS 18 9 (subRow o m 8 0 6 (x, b)).1 m (subRow o m 8 0 6 (x, b)).2) := gCut_runs hG (cqM_8 o x m b) (ct_lo18 ..) (cqc18 ..) (ct_hi ..)
theorem cuM_9 : RunsTo Try.prog 45 ctM (ctS 18 9 x m b) .normal (ctS 18 10 (subRow o m 9 0 6 (x, b)).1 m (subRow o m 9 0 6 (x, b)).2) := gCut_runs hG (cqM_9 o x m b) (ct_lo18 ..) (cqc18 ..) (ct_hi ..)
theorem cuM_10 : RunsTo Try.prog 45 ctM (ctS 18 10 x m b) .normal (ctS 18 11 (subRow o m 10 0 6 (x, b)).1 m (subRow o m 10 0 6 (x, b)).2) := gCut_runs hG (cqM_10 o x m b) (ct_lo18 ..) (cqc18 ..) (ct_hi ..)
theorem cuM_11 : RunsTo Try.prog 45 ctM (ctS 18 11 x m b) .normal (ctS 18 12 (subRow o m 11 0 6 (x, b)).1 m (subRow o m 11 0 6 (x, b)).2) := gCut_runs hG (cqM_11 o x m b) (ct_lo18 ..) (cqc18 ..) (ct_hi ..)
theorem cuM_12 : RunsTo Try.prog 45 ctM (ctS 18 12 x m b) .normal (ctS 18 13 (subRow o m 12 0 6 (x, b)).1 m (subRow o m 12 0 6 (x, b)).2) := gCut_runs hG (cqM_12 o x m b) (ct_lo18 ..) (cqc18 ..) (ct_hi ..)
theorem cuM_13 : RunsTo Try.prog 45 ctM (ctS 18 13 x m b) (.exit 2) (ctS 18 13 x m b) := gCut_runs hG (cqM_13 o x m b) (ct_lo18 ..) (cqc18 ..) (ct_hi ..)
theorem center_A : RunsTo Try.prog 45 (.block 0 (.loop ctL)) (ctS 9 0 x m b) .normal (ctS 9 6 x (iterF (ctPA o x) 0 6 (m, b)).1 (iterF (ctPA o x) 0 6 (m, b)).2) :=
  RunsTo.rounds (P := Try.prog) (N := 45) (c := ctL) (id := 0) 6 (fun i z => ctS 9 i x z.1 z.2) (fun z => ctS 9 6 x z.1 z.2) (ctPA o x)
    (fun i z hi => match i, hi with
      | 0, _ => cuA_0 hG x z.1 z.2
      | 1, _ => cuA_1 hG x z.1 z.2
      | 2, _ => cuA_2 hG x z.1 z.2
      | 3, _ => cuA_3 hG x z.1 z.2
      | 4, _ => cuA_4 hG x z.1 z.2
      | 5, _ => cuA_5 hG x z.1 z.2
      | n + 6, h => absurd h (by omega))
    (fun z => cuA_6 hG x z.1 z.2) (m, b)
theorem center_M : RunsTo Try.prog 45 (.block 2 (.loop ctM)) (ctS 18 0 x m b) .normal (ctS 18 13 (iterF (ctPM o m) 0 13 (x, b)).1 m (iterF (ctPM o m) 0 13 (x, b)).2) :=
  RunsTo.rounds (P := Try.prog) (N := 45) (c := ctM) (id := 2) 13 (fun k z => ctS 18 k z.1 m z.2) (fun z => ctS 18 13 z.1 m z.2) (ctPM o m)
    (fun k z hk => match k, hk with
      | 0, _ => cuM_0 hG z.1 m z.2
      | 1, _ => cuM_1 hG z.1 m z.2
      | 2, _ => cuM_2 hG z.1 m z.2
      | 3, _ => cuM_3 hG z.1 m z.2
      | 4, _ => cuM_4 hG z.1 m z.2
      | 5, _ => cuM_5 hG z.1 m z.2
      | 6, _ => cuM_6 hG z.1 m z.2
      | 7, _ => cuM_7 hG z.1 m z.2
      | 8, _ => cuM_8 hG z.1 m z.2
      | 9, _ => cuM_9 hG z.1 m z.2
      | 10, _ => cuM_10 hG z.1 m z.2
      | 11, _ => cuM_11 hG z.1 m z.2
      | 12, _ => cuM_12 hG z.1 m z.2
      | n + 13, h => absurd h (by omega))
    (fun z => cuM_13 hG z.1 m z.2) (x, b)
theorem center_runs : RunsTo Try.prog 45 ctC (startS 45 [.ptr 0 0, .ptr 1 0] [.row 111 (cells13 x), .row 25 [.val (.bool b)]]) .ret (ctF (centerO o b x).1.1 (centerO o b x).1.2 (centerO o b x).2) := by
  have hc : ctC = .seq ct0 (.seq ct1 (.seq (.seq ct2 (.block 0 (.loop ctL))) (.seq (.seq ct7 (.block 2 (.loop ctM))) ctE))) := by
    unfold ctC
    rw [ctC_is]
    rfl
  rw [hc]
  have hA := center_A hG x (fun _ => 0) b
  generalize hm : iterF (ctPA o x) 0 6 (fun _ => 0, b) = m at hA
  have hM := center_M hG x m.1 m.2
  have hx : centerO o b x = (((iterF (ctPM o m.1) 0 13 (x, m.2)).1, m.1), (iterF (ctPM o m.1) 0 13 (x, m.2)).2) := by unfold centerO; rw [hm]
  rw [hx]
  generalize iterF (ctPM o m.1) 0 13 (x, m.2) = y at hM
  have h2 := gRun_runs hG (cq2 o x b)
  have h7 := gCut_runs hG (cq7 o x m.1 m.2) (ct_lo9 ..) (cqc18 ..) (ct_hi ..)
  have hEnd := gRun_runs hG (cqE o y.1 m.1 y.2)
  exact (gRun_runs hG (cq0 o x b)).seq ((gRun_runs hG (cq1 o x b)).seq ((h2.seq hA).seq ((h7.seq hM).seq hEnd)))
end
theorem f57_is : Try.prog.funcs[107]? = some Try.f107 := by kernel_rfl
end Go.Ab
/- The filter's products. -/
namespace Go.Ab
open Go Go.Proofs
def pmN (o : Ops) (u v : Nat → Int) : Nat → Nat → Int × Bool → Int × Bool
  | _, 0, s => s
  | k, n + 1, s => pmN o u v (k + 1) n (let p := o.mul s.2 (u k) (v k); o.add p.2 s.1 p.1)
/-- The mean of products. -/
def pmO (o : Ops) (b : Bool) (u v : Nat → Int) : Int × Bool :=
  let p := o.mul b (u 0) (v 0)
  let s := pmN o u v 1 12 (o.add p.2 p.1 p.1)
  o.part s.2 s.1 1 14
noncomputable def prC : Code := Try.f108.body.getD .skip
noncomputable def pr0 : Code := seqL prC
noncomputable def pr1 : Code := seqL (seqR prC)
noncomputable def prA : Code := seqL (seqR (seqR prC))
noncomputable def pr2 : Code := seqL prA
noncomputable def prL : Code := inB (inB (seqR prA))
noncomputable def prE : Code := seqR (seqR (seqR prC))
noncomputable def pr3 : Code := seqL prL
noncomputable def pr3b : Code := seqL (seqR prL)
noncomputable def prI : Code := inB (seqL (seqR (seqR prL)))
noncomputable def pr4 : Code := seqL prI
noncomputable def pr5 : Code := seqL (seqR prI)
noncomputable def prM : Code := inB (inB (seqR (seqR prI)))
noncomputable def pr10 : Code := seqR (seqR (seqR prL))
theorem prC_is : Try.f108.body = some (.seq pr0 (.seq pr1 (.seq (.seq pr2 (.block 0 (.loop prL))) prE))) := by kernel_rfl
theorem prL_is : prL = .seq pr3 (.seq pr3b (.seq (.block 1 (.seq pr4 (.seq pr5 (.block 2 (.loop prM))))) pr10)) := by kernel_rfl
abbrev nE : Nat := 4096 + 4 * 2 ^ 180
abbrev nF : Nat := 4096 + 5 * 2 ^ 180
abbrev nG : Nat := 4096 + 6 * 2 ^ 180
def cells36 (m : Mx) : List AV := (nums 0 36).map fun j => .val (.int .i64 (m (j / 6) (j % 6)))
def prFx : List (Nat × AV) := [(3, .ptr nA 0), (4, .ptr nB 0), (5, .ptr nC 0), (6, .ptr nD 0), (7, .ptr nE 0)]
def prS (e : List (Nat × AV)) (H : Hp) (lo : Nat) : St := gSt 26 (prFx ++ e) H lo
abbrev prT (t : List Nat) : List Nat := [3, 4, 5, 6, 7] ++ t
def prJ_F (o : Ops) (x y : Mx) (i j : Nat) (z : Mx × Bool) : Mx × Bool := (setM z.1 i j (pmO o z.2 (fun k => x k i) (fun k => y k j)).1, (pmO o z.2 (fun k => x k i) (fun k => y k j)).2)
def prI_F (o : Ops) (x y : Mx) (i : Nat) (z : Mx × Bool) : Mx × Bool := iterF (prJ_F o x y i) 0 6 z
/-- The means of products of numbers of x and of y. -/
def prodO (o : Ops) (b : Bool) (x y : Mx) : Mx × Bool := iterF (prI_F o x y) 0 6 (mx0, b)
theorem f58_is : Try.prog.funcs[108]? = some Try.f108 := by kernel_rfl
theorem prN : Try.f108.ntmps = 26 := by kernel_rfl
end Go.Ab
