/- A part of the proofs: lemmas, no statement of their own; no condition. -/
import Derived.Test.YtccgjhdpiaglaaaFkL
import Derived.Test.YtccgjhdpiaglaaaFkB
import Derived.Test.YtccgjhdpiaglaaaGRtG
/- The document's means and products are the program's. -/
namespace Go.Ab
open Go Go.Proofs
theorem fadd_bad (x y : Int) : fadd true x y = (0, true) := rfl
theorem fmul_bad (x y : Int) : fmul true x y = (0, true) := rfl
theorem fpart_bad (x y z : Int) : fpart true x y z = (0, true) := rfl
theorem fadd_twice (b : Bool) (v : Int) : fadd (fadd b 0 v).2 (fadd b 0 v).1 v = fadd b v v := by
  unfold fadd
  cases b
  · cases hv : num v
    · simp [hv]
    · have h0 : num 0 = true := rfl
      simp [hv, h0]
  · rfl
theorem meanR_eq (b : Bool) (v : Nat → Int) : meanR opsF b v = meanO opsF b v := by
  unfold meanR meanO
  dsimp only
  rw [show opsF.add (opsF.add b 0 (v 0)).2 (opsF.add b 0 (v 0)).1 (v 0) = opsF.add b (v 0) (v 0) from fadd_twice b (v 0)]
/-- A flow's number is 0 where the flow is bad. -/
abbrev Null (r : Int × Bool) : Prop := r.2 = true → r = (0, true)
theorem pair_eq {r s : Int × Bool} (hr : Null r) (hs : Null s) (h : ∀ x, r = (x, false) ↔ s = (x, false)) : r = s := by
  obtain ⟨x, a⟩ := r
  obtain ⟨y, c⟩ := s
  cases a
  · exact ((h x).1 rfl).symm
  · cases c
    · exact (h y).2 rfl
    · rw [hr rfl, hs rfl]
theorem fpart_null (b : Bool) (x y z : Int) : Null (fpart b x y z) := by
  intro h
  unfold fpart at h ⊢
  cases hc : (b || !nums? [x, y, z])
  · rw [hc] at h
    simp only [cond_false] at h ⊢
    unfold fratio at h ⊢
    revert h
    generalize (iabs z == 0 || decide (iabs x * iabs y / iabs z > 4611686018427387904) || decide (rnd (iabs x * iabs y) (iabs z) > 4611686018427387904)) = c
    cases c <;> simp
  · rfl
theorem addN_bad (v : Nat → Int) : ∀ (n k : Nat) (a : Int), (addN opsF v k n (a, true)).2 = true
  | 0, _, _ => rfl
  | n + 1, k, a => by
    show (addN opsF v (k + 1) n (fadd true a (v k))).2 = true
    rw [fadd_bad]
    exact addN_bad v n (k + 1) 0
theorem addN_congr {u v : Nat → Int} : ∀ (n k : Nat) (s : Int × Bool), (∀ j, k ≤ j → j < k + n → u j = v j) → addN opsF u k n s = addN opsF v k n s
  | 0, _, _, _ => rfl
  | n + 1, k, s, h => by
    show addN opsF u (k + 1) n (opsF.add s.2 s.1 (u k)) = addN opsF v (k + 1) n (opsF.add s.2 s.1 (v k))
    rw [h k (Nat.le_refl k) (by omega)]
    exact addN_congr n (k + 1) _ fun j h1 h2 => h j (by omega) (by omega)
theorem pmN_bad (u v : Nat → Int) : ∀ (n k : Nat) (a : Int), (pmN opsF u v k n (a, true)).2 = true
  | 0, _, _ => rfl
  | n + 1, k, _ => pmN_bad u v n (k + 1) 0
theorem mulN_bad (u v : Nat → Int) : ∀ (n k : Nat) (f : Nat → Int), (mulN opsF u v k n (f, true)).2 = true
  | 0, _, _ => rfl
  | n + 1, k, _ => mulN_bad u v n (k + 1) _
def mk_ (u v : Nat → Int) (j : Nat) : Int × Bool := fmul false (u j) (v j)
theorem pmN_iff (u v : Nat → Int) (r : Int) : ∀ (n k : Nat) (a : Int), pmN opsF u v k n (a, false) = (r, false) ↔ (∀ j, k ≤ j → j < k + n → (mk_ u v j).2 = false) ∧ addN opsF (fun j => (mk_ u v j).1) k n (a, false) = (r, false)
  | 0, k, a => ⟨fun h => ⟨fun j h1 h2 => by omega, h⟩, fun h => h.2⟩
  | n + 1, k, a => by
    show pmN opsF u v (k + 1) n (fadd (mk_ u v k).2 a (mk_ u v k).1) = (r, false) ↔ (∀ j, k ≤ j → j < k + (n + 1) → (mk_ u v j).2 = false) ∧ addN opsF (fun j => (mk_ u v j).1) (k + 1) n (fadd false a (mk_ u v k).1) = (r, false)
    cases hk : (mk_ u v k).2
    · cases hs : fadd false a (mk_ u v k).1 with
      | mk a1 f1 =>
        cases f1
        · rw [pmN_iff u v r n (k + 1) a1]
          refine ⟨fun h => ⟨fun j h1 h2 => ?_, h.2⟩, fun h => ⟨fun j h1 h2 => h.1 j (by omega) (by omega), h.2⟩⟩
          by_cases hj : j = k
          · rw [hj]; exact hk
          · exact h.1 j (by omega) (by omega)
        · refine ⟨fun h => ?_, fun h => ?_⟩
          · have := pmN_bad u v n (k + 1) a1
            rw [h] at this
            cases this
          · have := addN_bad (fun j => (mk_ u v j).1) n (k + 1) a1
            rw [h.2] at this
            cases this
    · refine ⟨fun h => ?_, fun h => ?_⟩
      · have := pmN_bad u v n (k + 1) 0
        rw [fadd_bad] at h
        rw [h] at this
        cases this
      · have := h.1 k (Nat.le_refl k) (by omega)
        rw [hk] at this
        cases this
theorem mulN_iff (u v f' : Nat → Int) : ∀ (n k : Nat) (f : Nat → Int), mulN opsF u v k n (f, false) = (f', false) ↔ (∀ j, k ≤ j → j < k + n → (mk_ u v j).2 = false) ∧ f' = fun j => if k ≤ j ∧ j < k + n then (mk_ u v j).1 else f j
  | 0, k, f => by
    show (f, false) = (f', false) ↔ _
    refine ⟨fun h => ⟨fun j h1 h2 => by omega, ?_⟩, fun h => ?_⟩
    · cases h
      funext j
      rw [if_neg (by omega)]
    · rw [h.2]
      congr 1
      funext j
      rw [if_neg (by omega)]
  | n + 1, k, f => by
    show mulN opsF u v (k + 1) n (setR f k (mk_ u v k).1, (mk_ u v k).2) = (f', false) ↔ _
    cases hk : (mk_ u v k).2
    · rw [mulN_iff u v f' n (k + 1) _]
      have he : (fun j => if k + 1 ≤ j ∧ j < k + 1 + n then (mk_ u v j).1 else setR f k (mk_ u v k).1 j) = fun j => if k ≤ j ∧ j < k + (n + 1) then (mk_ u v j).1 else f j := by
        funext j
        by_cases hj : j = k
        · subst hj
          rw [if_neg (by omega), if_pos (by omega)]
          simp [setR]
        · by_cases h2 : k + 1 ≤ j ∧ j < k + 1 + n
          · rw [if_pos h2, if_pos (by omega)]
          · rw [if_neg h2, if_neg (by omega)]
            have hb : Nat.beq j k = false := by
              cases hq : Nat.beq j k
              · rfl
              · exact absurd (Nat.eq_of_beq_eq_true hq) hj
            simp only [setR, hb, cond_false]
      rw [he]
      refine ⟨fun h => ⟨fun j h1 h2 => ?_, h.2⟩, fun h => ⟨fun j h1 h2 => h.1 j (by omega) (by omega), h.2⟩⟩
      by_cases hj : j = k
      · rw [hj]; exact hk
      · exact h.1 j (by omega) (by omega)
    · refine ⟨fun h => ?_, fun h => ?_⟩
      · have := mulN_bad u v n (k + 1) (setR f k (mk_ u v k).1)
        rw [h] at this
        cases this
      · have := h.1 k (Nat.le_refl k) (by omega)
        rw [hk] at this
        cases this
theorem meanO_bad (v : Nat → Int) : meanO opsF true v = (0, true) := by
  unfold meanO
  have h := addN_bad v 12 1 0
  show fpart (addN opsF v 1 12 (0, true)).2 (addN opsF v 1 12 (0, true)).1 1 14 = _
  rw [h, fpart_bad]
theorem pm_is (b : Bool) (x y : X13) (i j : Int) : prV opsF (mnV opsF) b (x, i, y, j, ()) = pmO opsF b (col x i) (col y j) := by
  generalize hu : col x i = u
  generalize hv : col y j = v
  have hL : prV opsF (mnV opsF) b (x, i, y, j, ()) = meanO opsF (mulN opsF u v 0 13 (fun _ => 0, b)).2 (col (pcol (mulN opsF u v 0 13 (fun _ => 0, b)).1) 0) := by
    rw [← meanR_eq, ← hu, ← hv]
    rfl
  rw [hL]
  cases b with
  | true =>
    rw [mulN_bad, meanO_bad]
    have h := pmN_bad u v 12 1 0
    show _ = fpart (pmN opsF u v 1 12 (0, true)).2 (pmN opsF u v 1 12 (0, true)).1 1 14
    rw [h, fpart_bad]
  | false =>
    refine pair_eq (fun h => fpart_null _ _ _ _ h) (fun h => fpart_null _ _ _ _ h) fun r => ?_
    have hcol : ∀ (s : Nat → Int) (k : Nat), k < 13 → col (pcol s) 0 k = s k := by
      intro s k hk
      match k, hk with
      | 0, _ => rfl
      | 1, _ => rfl
      | 2, _ => rfl
      | 3, _ => rfl
      | 4, _ => rfl
      | 5, _ => rfl
      | 6, _ => rfl
      | 7, _ => rfl
      | 8, _ => rfl
      | 9, _ => rfl
      | 10, _ => rfl
      | 11, _ => rfl
      | 12, _ => rfl
      | n + 13, h => omega
    have hR : pmO opsF false u v = fpart (pmN opsF u v 1 12 (fadd (mk_ u v 0).2 (mk_ u v 0).1 (mk_ u v 0).1)).2 (pmN opsF u v 1 12 (fadd (mk_ u v 0).2 (mk_ u v 0).1 (mk_ u v 0).1)).1 1 14 := rfl
    rw [hR]
    have hpart : ∀ {s : Int × Bool} {r : Int}, fpart s.2 s.1 1 14 = (r, false) → ∃ a, s = (a, false) := by
      intro s r h
      obtain ⟨a, f⟩ := s
      cases f
      · exact ⟨a, rfl⟩
      · rw [show fpart true a 1 14 = (0, true) from rfl] at h
        cases h
    constructor
    · intro h
      cases hm : mulN opsF u v 0 13 (fun _ => 0, false) with
      | mk s f =>
        rw [hm] at h
        cases f with
        | true => rw [meanO_bad] at h; cases h
        | false =>
          obtain ⟨hall, hs⟩ := (mulN_iff u v s 13 0 _).1 hm
          have hs2 : ∀ k, k < 13 → col (pcol s) 0 k = (mk_ u v k).1 := fun k hk => by
            rw [hcol s k hk, hs]
            dsimp only
            rw [if_pos (by omega)]
          unfold meanO at h
          dsimp only at h
          rw [hs2 0 (by omega), addN_congr (v := fun j => (mk_ u v j).1) 12 1 _ fun k h1 h2 => hs2 k (by omega)] at h
          obtain ⟨a, ha⟩ := hpart h
          rw [ha] at h
          have h0 := hall 0 (by omega) (by omega)
          have hf : ∃ a0, fadd false (mk_ u v 0).1 (mk_ u v 0).1 = (a0, false) := by
            cases hc : fadd false (mk_ u v 0).1 (mk_ u v 0).1 with
            | mk a0 f0 =>
              cases f0
              · exact ⟨a0, rfl⟩
              · have := addN_bad (fun j => (mk_ u v j).1) 12 1 a0
                rw [← hc] at this
                rw [show addN opsF (fun j => (mk_ u v j).1) 1 12 (fadd false (mk_ u v 0).1 (mk_ u v 0).1) = (a, false) from ha] at this
                cases this
          obtain ⟨a0, hf⟩ := hf
          have hp := (pmN_iff u v a 12 1 a0).2 ⟨fun j h1 h2 => hall j (by omega) (by omega), by rw [← hf]; exact ha⟩
          rw [h0, hf, hp]
          exact h
    · intro h
      obtain ⟨a, ha⟩ := hpart h
      rw [ha] at h
      cases hc : fadd (mk_ u v 0).2 (mk_ u v 0).1 (mk_ u v 0).1 with
      | mk a0 f0 =>
        rw [hc] at ha
        cases f0 with
        | true =>
          have := pmN_bad u v 12 1 a0
          rw [ha] at this
          cases this
        | false =>
          have h0 : (mk_ u v 0).2 = false := by
            cases hq : (mk_ u v 0).2
            · rfl
            · rw [hq, fadd_bad] at hc
              cases hc
          obtain ⟨hall, hadd⟩ := (pmN_iff u v a 12 1 a0).1 ha
          have hm := (mulN_iff u v _ 13 0 (fun _ => 0)).2 ⟨fun j h1 h2 => by
            by_cases hj : j = 0
            · rw [hj]; exact h0
            · exact hall j (by omega) (by omega), rfl⟩
          rw [hm]
          have hs2 : ∀ k, k < 13 → col (pcol fun j => if 0 ≤ j ∧ j < 0 + 13 then (mk_ u v j).1 else 0) 0 k = (mk_ u v k).1 := fun k hk => by
            rw [hcol _ k hk]
            rw [if_pos (by omega)]
          unfold meanO
          dsimp only
          rw [hs2 0 (by omega), addN_congr (v := fun j => (mk_ u v j).1) 12 1 _ fun k h1 h2 => hs2 k (by omega)]
          rw [h0] at hc
          rw [show opsF.add false (mk_ u v 0).1 (mk_ u v 0).1 = (a0, false) from hc, hadd]
          exact h
end Go.Ab
/- What is the same but for the order of its operations. -/
namespace Go.Ab
open Go Go.Proofs
/-- The same flow, and the same value where it is good. -/
def Same {α : Type} (x y : α × Bool) : Prop := x.2 = y.2 ∧ (x.2 = false → x = y)
theorem Same.rfl' {α : Type} (x : α × Bool) : Same x x := ⟨rfl, fun _ => rfl⟩
theorem Same.of_bad {α : Type} {x y : α × Bool} (hx : x.2 = true) (hy : y.2 = true) : Same x y := ⟨hx.trans hy.symm, fun h => by rw [hx] at h; cases h⟩
theorem Same.trans {α : Type} {x y z : α × Bool} (h : Same x y) (k : Same y z) : Same x z := ⟨h.1.trans k.1, fun hx => (h.2 hx).trans (k.2 (h.1 ▸ hx))⟩
abbrev Bad {α ω : Type} (g : Bool → α → ω × Bool) : Prop := ∀ a, (g true a).2 = true
theorem Same.bind {α ω : Type} {x y : α × Bool} (h : Same x y) {K L : α × Bool → ω × Bool} (hK : ∀ a, (K (a, true)).2 = true) (hL : ∀ a, (L (a, true)).2 = true) (hs : ∀ a, Same (K (a, false)) (L (a, false))) : Same (K x) (L y) := by
  obtain ⟨a, f⟩ := x
  obtain ⟨c, e⟩ := y
  have h1 : f = e := h.1
  subst h1
  cases f with
  | true => exact .of_bad (hK a) (hL c)
  | false =>
    have h2 : (a, false) = (c, false) := h.2 rfl
    cases h2
    exact hs a
theorem iter_bad {τ : Type} {P : Nat → τ × Bool → τ × Bool} (hP : ∀ i d, (P i (d, true)).2 = true) : ∀ (n i : Nat) (d : τ), (iterF P i n (d, true)).2 = true
  | 0, _, _ => rfl
  | n + 1, i, d => by
    show (iterF P (i + 1) n (P i (d, true))).2 = true
    have h := hP i d
    rcases hq : P i (d, true) with ⟨d1, f⟩
    rw [hq] at h
    have : f = true := h
    subst this
    exact iter_bad hP n (i + 1) d1
theorem iter_same {τ : Type} {P Q : Nat → τ × Bool → τ × Bool} (hP : ∀ i d, (P i (d, true)).2 = true) (hQ : ∀ i d, (Q i (d, true)).2 = true) (h : ∀ i d, Same (P i (d, false)) (Q i (d, false))) : ∀ (n i : Nat) {x y : τ × Bool}, Same x y → Same (iterF P i n x) (iterF Q i n y)
  | 0, _, _, _, hs => hs
  | n + 1, i, _, _, hs => iter_same hP hQ h n (i + 1) (hs.bind (K := P i) (L := Q i) (hP i) (hQ i) (h i))
section
variable (vs : Bool → V3 × V3 × Unit → V3 × Bool) (part : Bool → Int → Int → Int → Int × Bool) (fr : RFun) (mu : QFun)
theorem round_same (hpart : ∀ x y z, (part true x y z).2 = true) (hfr : Bad fr) (hmu : Bad mu) (F : FOps) (G : ROps) (hF : F.vs = vs ∧ F.o.part = part ∧ F.tu = turnedO mu fr) (hGo : G.vs = vs ∧ G.o.part = part ∧ G.fr = fr ∧ G.mu = mu ∧ G.att = attO mu fr)
    (g : Gs) (rate ra : V3) (hr : vs false (rate, g.bias, ()) = (ra, false)) (ms : Int) (r : R6) : Same (mv1 F g.q ra ms r false) (rv1 G g rate ms r false) := by
  obtain ⟨h1, h2, h3⟩ := hF
  obtain ⟨k1, k2, k3, k4, k5⟩ := hGo
  unfold mv1 rv1
  rw [h1, h2, h3, k1, k2, k3, k4, k5]
  unfold turnedO attO
  dsimp only
  rw [hr]
  dsimp only
  rcases e1 : vs false (ra, (halvesV r).b, ()) with ⟨w, f1⟩
  cases f1
  · rcases e2 : part false w.x ms 1000 with ⟨a0, f2⟩
    cases f2
    · rcases e3 : part false w.y ms 1000 with ⟨a1, f3⟩
      cases f3
      · rcases e4 : part false w.z ms 1000 with ⟨a2, f4⟩
        cases f4
        · rcases e5 : fr false ((halvesV r).a, ()) with ⟨p1, f5⟩
          cases f5
          · rcases e6 : fr false (⟨a0, a1, a2⟩, ()) with ⟨p3, f6⟩
            cases f6
            · rcases e7 : mu false (p1, g.q, ()) with ⟨p2, f7⟩
              cases f7
              · simp_all [Same]
              · simp_all [Same]
            · rcases e7 : mu false (p1, g.q, ()) with ⟨p2, f7⟩
              cases f7 <;> simp_all [Same]
          · rcases e6 : fr false (⟨a0, a1, a2⟩, ()) with ⟨p3, f6⟩
            cases f6 <;> simp_all [Same]
        · simp_all [Same]
      · simp_all [Same]
    · simp_all [Same]
  · simp_all [Same]
end
end Go.Ab
/- apply: trees of both packages, for each count. -/
namespace Go.Ab
open Go Go.Proofs
theorem apply85_1 (o : Ops) (b : Bool) (m : M6) (y : R6) : fnSum Try.prog { gam := gamN o } [] 20 31 [.ptr 0 0, .val (Cod.enc m), .val (Cod.enc y), .val (.int .i64 1)] (row 25 b) = applyT o 25 b m y 1 := by kernel_rfl
theorem apply85_2 (o : Ops) (b : Bool) (m : M6) (y : R6) : fnSum Try.prog { gam := gamN o } [] 20 31 [.ptr 0 0, .val (Cod.enc m), .val (Cod.enc y), .val (.int .i64 2)] (row 25 b) = applyT o 25 b m y 2 := by kernel_rfl
theorem apply85_3 (o : Ops) (b : Bool) (m : M6) (y : R6) : fnSum Try.prog { gam := gamN o } [] 20 31 [.ptr 0 0, .val (Cod.enc m), .val (Cod.enc y), .val (.int .i64 3)] (row 25 b) = applyT o 25 b m y 3 := by kernel_rfl
theorem apply85_4 (o : Ops) (b : Bool) (m : M6) (y : R6) : fnSum Try.prog { gam := gamN o } [] 20 31 [.ptr 0 0, .val (Cod.enc m), .val (Cod.enc y), .val (.int .i64 4)] (row 25 b) = applyT o 25 b m y 4 := by kernel_rfl
theorem apply85_5 (o : Ops) (b : Bool) (m : M6) (y : R6) : fnSum Try.prog { gam := gamN o } [] 20 31 [.ptr 0 0, .val (Cod.enc m), .val (Cod.enc y), .val (.int .i64 5)] (row 25 b) = applyT o 25 b m y 5 := by kernel_rfl
theorem apply85_6 (o : Ops) (b : Bool) (m : M6) (y : R6) : fnSum Try.prog { gam := gamN o } [] 20 31 [.ptr 0 0, .val (Cod.enc m), .val (Cod.enc y), .val (.int .i64 6)] (row 25 b) = applyT o 25 b m y 6 := by kernel_rfl
theorem apply86_1 (o : Ops) (b : Bool) (m : M6) (y : R6) : fnSum Try.prog { gam := gamN o } [] 20 32 [.ptr 0 0, .val (Cod.enc m), .val (Cod.enc y), .val (.int .i64 1)] (row 27 b) = applyT o 27 b m y 1 := by kernel_rfl
theorem apply86_2 (o : Ops) (b : Bool) (m : M6) (y : R6) : fnSum Try.prog { gam := gamN o } [] 20 32 [.ptr 0 0, .val (Cod.enc m), .val (Cod.enc y), .val (.int .i64 2)] (row 27 b) = applyT o 27 b m y 2 := by kernel_rfl
theorem apply86_3 (o : Ops) (b : Bool) (m : M6) (y : R6) : fnSum Try.prog { gam := gamN o } [] 20 32 [.ptr 0 0, .val (Cod.enc m), .val (Cod.enc y), .val (.int .i64 3)] (row 27 b) = applyT o 27 b m y 3 := by kernel_rfl
theorem apply86_4 (o : Ops) (b : Bool) (m : M6) (y : R6) : fnSum Try.prog { gam := gamN o } [] 20 32 [.ptr 0 0, .val (Cod.enc m), .val (Cod.enc y), .val (.int .i64 4)] (row 27 b) = applyT o 27 b m y 4 := by kernel_rfl
theorem apply86_5 (o : Ops) (b : Bool) (m : M6) (y : R6) : fnSum Try.prog { gam := gamN o } [] 20 32 [.ptr 0 0, .val (Cod.enc m), .val (Cod.enc y), .val (.int .i64 5)] (row 27 b) = applyT o 27 b m y 5 := by kernel_rfl
theorem apply86_6 (o : Ops) (b : Bool) (m : M6) (y : R6) : fnSum Try.prog { gam := gamN o } [] 20 32 [.ptr 0 0, .val (Cod.enc m), .val (Cod.enc y), .val (.int .i64 6)] (row 27 b) = applyT o 27 b m y 6 := by kernel_rfl
end Go.Ab
/- apply: the summaries of both packages. -/
namespace Go.Ab
open Go Go.Proofs
theorem apply85_bad (o : Ops) (b : Bool) (m : M6) (y : R6) (n : Int) : fnSum Try.prog { gam := gamN o } mute 20 31 [.ptr 0 0, .val (Cod.enc m), .val (Cod.enc y), .val (.int .i64 n)] (row 25 b) = badT 25 (Cod.enc R6.zero) b n := by kernel_rfl
theorem apply86_bad (o : Ops) (b : Bool) (m : M6) (y : R6) (n : Int) : fnSum Try.prog { gam := gamN o } mute 20 32 [.ptr 0 0, .val (Cod.enc m), .val (Cod.enc y), .val (.int .i64 n)] (row 27 b) = badT 27 (Cod.enc R6.zero) b n := by kernel_rfl
theorem ok85 : SumOk Try.prog 31 (S 25 (matApply opsF)) := by
  refine S_join fun (a : M6 × R6 × Int × Unit) => ?_
  cases hn : okN a.2.2.1 with
  | false =>
    refine ⟨fun p => !okN p.2.2.1, by simp only [hn, Bool.not_false], ?_⟩
    refine Sc_okH (E := { gam := gamN opsF }) gamN_ok (hB := mute) muteFit 20 fun b p hp => ?_
    obtain ⟨m, y, n, _⟩ := p
    have hp' : okN n = false := by simpa using hp
    refine ((apply85_bad opsF b m y n).trans (badT_eq hp')).trans ?_
    show _ = some (AV.val (Cod.enc (byN R6.zero n b _).1), row 25 (byN R6.zero n b _).2)
    rw [byN_no _ _ _ hp']
  | true =>
    rcases okN_cases hn with h | h | h | h | h | h
    · refine ⟨fun p => decide (p.2.2.1 = 1), by simp only [h, decide_true], ?_⟩
      refine Sc_ok (E := { gam := gamN opsF }) gamN_ok 20 fun b p hp => ?_
      obtain ⟨m, y, n, _⟩ := p
      have hp' : n = 1 := by simpa using hp
      subst hp'
      refine (apply85_1 opsF b m y).trans ?_
      unfold applyT
      rw [doneRT_eq]
      exact endT_eq 25 R6.zero b (doneR (appN opsF m.at y.at 1 b 1))
    · refine ⟨fun p => decide (p.2.2.1 = 2), by simp only [h, decide_true], ?_⟩
      refine Sc_ok (E := { gam := gamN opsF }) gamN_ok 20 fun b p hp => ?_
      obtain ⟨m, y, n, _⟩ := p
      have hp' : n = 2 := by simpa using hp
      subst hp'
      refine (apply85_2 opsF b m y).trans ?_
      unfold applyT
      rw [doneRT_eq]
      exact endT_eq 25 R6.zero b (doneR (appN opsF m.at y.at 2 b 2))
    · refine ⟨fun p => decide (p.2.2.1 = 3), by simp only [h, decide_true], ?_⟩
      refine Sc_ok (E := { gam := gamN opsF }) gamN_ok 20 fun b p hp => ?_
      obtain ⟨m, y, n, _⟩ := p
      have hp' : n = 3 := by simpa using hp
      subst hp'
      refine (apply85_3 opsF b m y).trans ?_
      unfold applyT
      rw [doneRT_eq]
      exact endT_eq 25 R6.zero b (doneR (appN opsF m.at y.at 3 b 3))
    · refine ⟨fun p => decide (p.2.2.1 = 4), by simp only [h, decide_true], ?_⟩
      refine Sc_ok (E := { gam := gamN opsF }) gamN_ok 20 fun b p hp => ?_
      obtain ⟨m, y, n, _⟩ := p
      have hp' : n = 4 := by simpa using hp
      subst hp'
      refine (apply85_4 opsF b m y).trans ?_
      unfold applyT
      rw [doneRT_eq]
      exact endT_eq 25 R6.zero b (doneR (appN opsF m.at y.at 4 b 4))
    · refine ⟨fun p => decide (p.2.2.1 = 5), by simp only [h, decide_true], ?_⟩
      refine Sc_ok (E := { gam := gamN opsF }) gamN_ok 20 fun b p hp => ?_
      obtain ⟨m, y, n, _⟩ := p
      have hp' : n = 5 := by simpa using hp
      subst hp'
      refine (apply85_5 opsF b m y).trans ?_
      unfold applyT
      rw [doneRT_eq]
      exact endT_eq 25 R6.zero b (doneR (appN opsF m.at y.at 5 b 5))
    · refine ⟨fun p => decide (p.2.2.1 = 6), by simp only [h, decide_true], ?_⟩
      refine Sc_ok (E := { gam := gamN opsF }) gamN_ok 20 fun b p hp => ?_
      obtain ⟨m, y, n, _⟩ := p
      have hp' : n = 6 := by simpa using hp
      subst hp'
      refine (apply85_6 opsF b m y).trans ?_
      unfold applyT
      rw [doneRT_eq]
      exact endT_eq 25 R6.zero b (doneR (appN opsF m.at y.at 6 b 6))
theorem ok86 : SumOk Try.prog 32 (S 27 (matApply opsF)) := by
  refine S_join fun (a : M6 × R6 × Int × Unit) => ?_
  cases hn : okN a.2.2.1 with
  | false =>
    refine ⟨fun p => !okN p.2.2.1, by simp only [hn, Bool.not_false], ?_⟩
    refine Sc_okH (E := { gam := gamN opsF }) gamN_ok (hB := mute) muteFit 20 fun b p hp => ?_
    obtain ⟨m, y, n, _⟩ := p
    have hp' : okN n = false := by simpa using hp
    refine ((apply86_bad opsF b m y n).trans (badT_eq hp')).trans ?_
    show _ = some (AV.val (Cod.enc (byN R6.zero n b _).1), row 27 (byN R6.zero n b _).2)
    rw [byN_no _ _ _ hp']
  | true =>
    rcases okN_cases hn with h | h | h | h | h | h
    · refine ⟨fun p => decide (p.2.2.1 = 1), by simp only [h, decide_true], ?_⟩
      refine Sc_ok (E := { gam := gamN opsF }) gamN_ok 20 fun b p hp => ?_
      obtain ⟨m, y, n, _⟩ := p
      have hp' : n = 1 := by simpa using hp
      subst hp'
      refine (apply86_1 opsF b m y).trans ?_
      unfold applyT
      rw [doneRT_eq]
      exact endT_eq 27 R6.zero b (doneR (appN opsF m.at y.at 1 b 1))
    · refine ⟨fun p => decide (p.2.2.1 = 2), by simp only [h, decide_true], ?_⟩
      refine Sc_ok (E := { gam := gamN opsF }) gamN_ok 20 fun b p hp => ?_
      obtain ⟨m, y, n, _⟩ := p
      have hp' : n = 2 := by simpa using hp
      subst hp'
      refine (apply86_2 opsF b m y).trans ?_
      unfold applyT
      rw [doneRT_eq]
      exact endT_eq 27 R6.zero b (doneR (appN opsF m.at y.at 2 b 2))
    · refine ⟨fun p => decide (p.2.2.1 = 3), by simp only [h, decide_true], ?_⟩
      refine Sc_ok (E := { gam := gamN opsF }) gamN_ok 20 fun b p hp => ?_
      obtain ⟨m, y, n, _⟩ := p
      have hp' : n = 3 := by simpa using hp
      subst hp'
      refine (apply86_3 opsF b m y).trans ?_
      unfold applyT
      rw [doneRT_eq]
      exact endT_eq 27 R6.zero b (doneR (appN opsF m.at y.at 3 b 3))
    · refine ⟨fun p => decide (p.2.2.1 = 4), by simp only [h, decide_true], ?_⟩
      refine Sc_ok (E := { gam := gamN opsF }) gamN_ok 20 fun b p hp => ?_
      obtain ⟨m, y, n, _⟩ := p
      have hp' : n = 4 := by simpa using hp
      subst hp'
      refine (apply86_4 opsF b m y).trans ?_
      unfold applyT
      rw [doneRT_eq]
      exact endT_eq 27 R6.zero b (doneR (appN opsF m.at y.at 4 b 4))
    · refine ⟨fun p => decide (p.2.2.1 = 5), by simp only [h, decide_true], ?_⟩
      refine Sc_ok (E := { gam := gamN opsF }) gamN_ok 20 fun b p hp => ?_
      obtain ⟨m, y, n, _⟩ := p
      have hp' : n = 5 := by simpa using hp
      subst hp'
      refine (apply86_5 opsF b m y).trans ?_
      unfold applyT
      rw [doneRT_eq]
      exact endT_eq 27 R6.zero b (doneR (appN opsF m.at y.at 5 b 5))
    · refine ⟨fun p => decide (p.2.2.1 = 6), by simp only [h, decide_true], ?_⟩
      refine Sc_ok (E := { gam := gamN opsF }) gamN_ok 20 fun b p hp => ?_
      obtain ⟨m, y, n, _⟩ := p
      have hp' : n = 6 := by simpa using hp
      subst hp'
      refine (apply86_6 opsF b m y).trans ?_
      unfold applyT
      rw [doneRT_eq]
      exact endT_eq 27 R6.zero b (doneR (appN opsF m.at y.at 6 b 6))
end Go.Ab
/- solve: trees of both packages, for each count. -/
namespace Go.Ab
open Go Go.Proofs
theorem solve76_1 (o : Ops) (b : Bool) (m : M6) (y : R6) : fnSum Try.prog { gam := gamN o } [] 20 27 [.ptr 0 0, .val (Cod.enc m), .val (Cod.enc y), .val (.int .i64 1)] (row 25 b) = solveT o 25 b m y 1 := by kernel_rfl
theorem solve76_2 (o : Ops) (b : Bool) (m : M6) (y : R6) : fnSum Try.prog { gam := gamN o } [] 20 27 [.ptr 0 0, .val (Cod.enc m), .val (Cod.enc y), .val (.int .i64 2)] (row 25 b) = solveT o 25 b m y 2 := by kernel_rfl
theorem solve76_3 (o : Ops) (b : Bool) (m : M6) (y : R6) : fnSum Try.prog { gam := gamN o } [] 20 27 [.ptr 0 0, .val (Cod.enc m), .val (Cod.enc y), .val (.int .i64 3)] (row 25 b) = solveT o 25 b m y 3 := by kernel_rfl
theorem solve76_4 (o : Ops) (b : Bool) (m : M6) (y : R6) : fnSum Try.prog { gam := gamN o } [] 20 27 [.ptr 0 0, .val (Cod.enc m), .val (Cod.enc y), .val (.int .i64 4)] (row 25 b) = solveT o 25 b m y 4 := by kernel_rfl
theorem solve76_5 (o : Ops) (b : Bool) (m : M6) (y : R6) : fnSum Try.prog { gam := gamN o } [] 20 27 [.ptr 0 0, .val (Cod.enc m), .val (Cod.enc y), .val (.int .i64 5)] (row 25 b) = solveT o 25 b m y 5 := by kernel_rfl
theorem solve76_6 (o : Ops) (b : Bool) (m : M6) (y : R6) : fnSum Try.prog { gam := gamN o } [] 20 27 [.ptr 0 0, .val (Cod.enc m), .val (Cod.enc y), .val (.int .i64 6)] (row 25 b) = solveT o 25 b m y 6 := by kernel_rfl
theorem solve77_1 (o : Ops) (b : Bool) (m : M6) (y : R6) : fnSum Try.prog { gam := gamN o } [] 20 28 [.ptr 0 0, .val (Cod.enc m), .val (Cod.enc y), .val (.int .i64 1)] (row 27 b) = solveT o 27 b m y 1 := by kernel_rfl
theorem solve77_2 (o : Ops) (b : Bool) (m : M6) (y : R6) : fnSum Try.prog { gam := gamN o } [] 20 28 [.ptr 0 0, .val (Cod.enc m), .val (Cod.enc y), .val (.int .i64 2)] (row 27 b) = solveT o 27 b m y 2 := by kernel_rfl
theorem solve77_3 (o : Ops) (b : Bool) (m : M6) (y : R6) : fnSum Try.prog { gam := gamN o } [] 20 28 [.ptr 0 0, .val (Cod.enc m), .val (Cod.enc y), .val (.int .i64 3)] (row 27 b) = solveT o 27 b m y 3 := by kernel_rfl
theorem solve77_4 (o : Ops) (b : Bool) (m : M6) (y : R6) : fnSum Try.prog { gam := gamN o } [] 20 28 [.ptr 0 0, .val (Cod.enc m), .val (Cod.enc y), .val (.int .i64 4)] (row 27 b) = solveT o 27 b m y 4 := by kernel_rfl
theorem solve77_5 (o : Ops) (b : Bool) (m : M6) (y : R6) : fnSum Try.prog { gam := gamN o } [] 20 28 [.ptr 0 0, .val (Cod.enc m), .val (Cod.enc y), .val (.int .i64 5)] (row 27 b) = solveT o 27 b m y 5 := by kernel_rfl
theorem solve77_6 (o : Ops) (b : Bool) (m : M6) (y : R6) : fnSum Try.prog { gam := gamN o } [] 20 28 [.ptr 0 0, .val (Cod.enc m), .val (Cod.enc y), .val (.int .i64 6)] (row 27 b) = solveT o 27 b m y 6 := by kernel_rfl
end Go.Ab
/- solve: the summaries of both packages. -/
namespace Go.Ab
open Go Go.Proofs
theorem solve76_bad (o : Ops) (b : Bool) (m : M6) (y : R6) (n : Int) : fnSum Try.prog { gam := gamN o } mute 20 27 [.ptr 0 0, .val (Cod.enc m), .val (Cod.enc y), .val (.int .i64 n)] (row 25 b) = badT 25 (Cod.enc R6.zero) b n := by kernel_rfl
theorem solve77_bad (o : Ops) (b : Bool) (m : M6) (y : R6) (n : Int) : fnSum Try.prog { gam := gamN o } mute 20 28 [.ptr 0 0, .val (Cod.enc m), .val (Cod.enc y), .val (.int .i64 n)] (row 27 b) = badT 27 (Cod.enc R6.zero) b n := by kernel_rfl
theorem ok76 : SumOk Try.prog 27 (S 25 (matSolve opsF)) := by
  refine S_join fun (a : M6 × R6 × Int × Unit) => ?_
  cases hn : okN a.2.2.1 with
  | false =>
    refine ⟨fun p => !okN p.2.2.1, by simp only [hn, Bool.not_false], ?_⟩
    refine Sc_okH (E := { gam := gamN opsF }) gamN_ok (hB := mute) muteFit 20 fun b p hp => ?_
    obtain ⟨m, y, n, _⟩ := p
    have hp' : okN n = false := by simpa using hp
    refine ((solve76_bad opsF b m y n).trans (badT_eq hp')).trans ?_
    show _ = some (AV.val (Cod.enc (byN R6.zero n b _).1), row 25 (byN R6.zero n b _).2)
    rw [byN_no _ _ _ hp']
  | true =>
    rcases okN_cases hn with h | h | h | h | h | h
    · refine ⟨fun p => decide (p.2.2.1 = 1), by simp only [h, decide_true], ?_⟩
      refine Sc_ok (E := { gam := gamN opsF }) gamN_ok 20 fun b p hp => ?_
      obtain ⟨m, y, n, _⟩ := p
      have hp' : n = 1 := by simpa using hp
      subst hp'
      refine (solve76_1 opsF b m y).trans ?_
      unfold solveT
      rw [doneRT_eq]
      exact endT_eq 25 R6.zero b (doneR (solve0 opsF b m y 1))
    · refine ⟨fun p => decide (p.2.2.1 = 2), by simp only [h, decide_true], ?_⟩
      refine Sc_ok (E := { gam := gamN opsF }) gamN_ok 20 fun b p hp => ?_
      obtain ⟨m, y, n, _⟩ := p
      have hp' : n = 2 := by simpa using hp
      subst hp'
      refine (solve76_2 opsF b m y).trans ?_
      unfold solveT
      rw [doneRT_eq]
      exact endT_eq 25 R6.zero b (doneR (solve0 opsF b m y 2))
    · refine ⟨fun p => decide (p.2.2.1 = 3), by simp only [h, decide_true], ?_⟩
      refine Sc_ok (E := { gam := gamN opsF }) gamN_ok 20 fun b p hp => ?_
      obtain ⟨m, y, n, _⟩ := p
      have hp' : n = 3 := by simpa using hp
      subst hp'
      refine (solve76_3 opsF b m y).trans ?_
      unfold solveT
      rw [doneRT_eq]
      exact endT_eq 25 R6.zero b (doneR (solve0 opsF b m y 3))
    · refine ⟨fun p => decide (p.2.2.1 = 4), by simp only [h, decide_true], ?_⟩
      refine Sc_ok (E := { gam := gamN opsF }) gamN_ok 20 fun b p hp => ?_
      obtain ⟨m, y, n, _⟩ := p
      have hp' : n = 4 := by simpa using hp
      subst hp'
      refine (solve76_4 opsF b m y).trans ?_
      unfold solveT
      rw [doneRT_eq]
      exact endT_eq 25 R6.zero b (doneR (solve0 opsF b m y 4))
    · refine ⟨fun p => decide (p.2.2.1 = 5), by simp only [h, decide_true], ?_⟩
      refine Sc_ok (E := { gam := gamN opsF }) gamN_ok 20 fun b p hp => ?_
      obtain ⟨m, y, n, _⟩ := p
      have hp' : n = 5 := by simpa using hp
      subst hp'
      refine (solve76_5 opsF b m y).trans ?_
      unfold solveT
      rw [doneRT_eq]
      exact endT_eq 25 R6.zero b (doneR (solve0 opsF b m y 5))
    · refine ⟨fun p => decide (p.2.2.1 = 6), by simp only [h, decide_true], ?_⟩
      refine Sc_ok (E := { gam := gamN opsF }) gamN_ok 20 fun b p hp => ?_
      obtain ⟨m, y, n, _⟩ := p
      have hp' : n = 6 := by simpa using hp
      subst hp'
      refine (solve76_6 opsF b m y).trans ?_
      unfold solveT
      rw [doneRT_eq]
      exact endT_eq 25 R6.zero b (doneR (solve0 opsF b m y 6))
theorem ok77 : SumOk Try.prog 28 (S 27 (matSolve opsF)) := by
  refine S_join fun (a : M6 × R6 × Int × Unit) => ?_
  cases hn : okN a.2.2.1 with
  | false =>
    refine ⟨fun p => !okN p.2.2.1, by simp only [hn, Bool.not_false], ?_⟩
    refine Sc_okH (E := { gam := gamN opsF }) gamN_ok (hB := mute) muteFit 20 fun b p hp => ?_
    obtain ⟨m, y, n, _⟩ := p
    have hp' : okN n = false := by simpa using hp
    refine ((solve77_bad opsF b m y n).trans (badT_eq hp')).trans ?_
    show _ = some (AV.val (Cod.enc (byN R6.zero n b _).1), row 27 (byN R6.zero n b _).2)
    rw [byN_no _ _ _ hp']
  | true =>
    rcases okN_cases hn with h | h | h | h | h | h
    · refine ⟨fun p => decide (p.2.2.1 = 1), by simp only [h, decide_true], ?_⟩
      refine Sc_ok (E := { gam := gamN opsF }) gamN_ok 20 fun b p hp => ?_
      obtain ⟨m, y, n, _⟩ := p
      have hp' : n = 1 := by simpa using hp
      subst hp'
      refine (solve77_1 opsF b m y).trans ?_
      unfold solveT
      rw [doneRT_eq]
      exact endT_eq 27 R6.zero b (doneR (solve0 opsF b m y 1))
    · refine ⟨fun p => decide (p.2.2.1 = 2), by simp only [h, decide_true], ?_⟩
      refine Sc_ok (E := { gam := gamN opsF }) gamN_ok 20 fun b p hp => ?_
      obtain ⟨m, y, n, _⟩ := p
      have hp' : n = 2 := by simpa using hp
      subst hp'
      refine (solve77_2 opsF b m y).trans ?_
      unfold solveT
      rw [doneRT_eq]
      exact endT_eq 27 R6.zero b (doneR (solve0 opsF b m y 2))
    · refine ⟨fun p => decide (p.2.2.1 = 3), by simp only [h, decide_true], ?_⟩
      refine Sc_ok (E := { gam := gamN opsF }) gamN_ok 20 fun b p hp => ?_
      obtain ⟨m, y, n, _⟩ := p
      have hp' : n = 3 := by simpa using hp
      subst hp'
      refine (solve77_3 opsF b m y).trans ?_
      unfold solveT
      rw [doneRT_eq]
      exact endT_eq 27 R6.zero b (doneR (solve0 opsF b m y 3))
    · refine ⟨fun p => decide (p.2.2.1 = 4), by simp only [h, decide_true], ?_⟩
      refine Sc_ok (E := { gam := gamN opsF }) gamN_ok 20 fun b p hp => ?_
      obtain ⟨m, y, n, _⟩ := p
      have hp' : n = 4 := by simpa using hp
      subst hp'
      refine (solve77_4 opsF b m y).trans ?_
      unfold solveT
      rw [doneRT_eq]
      exact endT_eq 27 R6.zero b (doneR (solve0 opsF b m y 4))
    · refine ⟨fun p => decide (p.2.2.1 = 5), by simp only [h, decide_true], ?_⟩
      refine Sc_ok (E := { gam := gamN opsF }) gamN_ok 20 fun b p hp => ?_
      obtain ⟨m, y, n, _⟩ := p
      have hp' : n = 5 := by simpa using hp
      subst hp'
      refine (solve77_5 opsF b m y).trans ?_
      unfold solveT
      rw [doneRT_eq]
      exact endT_eq 27 R6.zero b (doneR (solve0 opsF b m y 5))
    · refine ⟨fun p => decide (p.2.2.1 = 6), by simp only [h, decide_true], ?_⟩
      refine Sc_ok (E := { gam := gamN opsF }) gamN_ok 20 fun b p hp => ?_
      obtain ⟨m, y, n, _⟩ := p
      have hp' : n = 6 := by simpa using hp
      subst hp'
      refine (solve77_6 opsF b m y).trans ?_
      unfold solveT
      rw [doneRT_eq]
      exact endT_eq 27 R6.zero b (doneR (solve0 opsF b m y 6))
end Go.Ab
/- The filter's functions with the numbers' own operations. -/
namespace Go.Ab
open Go Go.Proofs
def frF : RFun := fromRod opsF vopsF (qunit opsF)
def tuF : TFun := turnedO qmul frF
def ptF : Bool → Gs × Unit → X13 × Bool := fun b p => pointsJ opsF (matRootN opsF) jobsP b p.1
def stF : Bool → V4 × V3 × R6 × M6 × Unit → Two Gs Bool × Bool := settleO (vop fadd) (qunit opsF) tuF
def FP : FOps := { o := opsF, vs := vop fsub, tu := tuF, un := qunit opsF, mu := qmul, tr := toRod opsF, bk := qback, pt := ptF, cen := centerV opsF, pro := prodV opsF, ont := ontoV opsF, st := stF }
def RP : ROps := { o := opsF, vs := vop fsub, va := vop fadd, un := qunit opsF, mu := qmul, fr := frF, tr := toRod opsF, bk := qback, pt := ptF, att := attO qmul frF, mn := mnV opsF, ls := lessO opsF, pr := prV opsF (mnV opsF), qt := qturn vopsF, vu := vunit opsF, rt := matRootN opsF, so := matSolve opsF, ap := matApply opsF }
theorem okTurned : SumOk Try.prog 105 (S 25 tuF) := S_ok (E := { gam := [(41, S 25 qmul), (55, S 25 frF)] }) (.cons ok92 (.cons ok80 .nil)) 20 fun b a => turned54 qmul frF b a.1 a.2.1
theorem okSettle : SumOk Try.prog 110 (S 25 stF) := S_ok (E := { gam := [(90, S 25 (vop fadd)), (38, S 25 (qunit opsF)), (105, S 25 tuF), (104, S0 fun (p : R6 × Unit) => halvesV p.1)] }) (.cons ok50 (.cons ok72 (.cons okTurned (.cons okHalves .nil)))) 20 fun b a => by
  refine (settle66 (vop fadd) (qunit opsF) tuF b a.1 a.2.1 a.2.2.1 a.2.2.2.1).trans ?_
  unfold stF settleO
  dsimp only
  generalize settle0 (vop fadd) (qunit opsF) tuF b a.1 a.2.1 a.2.2.1 a.2.2.2.1 = r
  obtain ⟨r, f⟩ := r
  cases f <;> rfl
theorem okAtt : SumOk Try.prog 114 (S 27 (attO qmul frF)) := S_ok (E := { gam := [(112, S 27 qmul), (113, S 27 frF), (121, S0 fun (p : R6 × Unit) => (halvesV p.1).a)] }) (.cons ok93 (.cons ok81 (.cons okFirst .nil))) 20 fun b a => att70 qmul frF b a.1 a.2.1
theorem gamFP : GamOk Try.prog (eM FP).gam := .cons ok52 (.cons okTurned (.cons ok72 (.cons ok92 (.cons ok82 (.cons ok91 (.cons ok107 (.cons (okCtr gamN_ok) (.cons (okPrd gamN_ok) (.cons (okOnt gamN_ok) (.cons okSettle (.cons okHalves (.cons okJoin (.cons ok116 (.cons ok115 .nil))))))))))))))
theorem gamRP : GamOk Try.prog (eR RP).gam := .cons ok117 (.cons ok125 (.cons ok128 (.cons ok122 (.cons ok118 (.cons ok53 (.cons ok51 (.cons ok73 (.cons ok93 (.cons ok81 (.cons ok83 (.cons ok94 (.cons ok108 (.cons okAtt (.cons (okMean gamN_ok) (.cons (lessO_ok gamN_ok) (.cons (okProds (.cons (okMean gamN_ok) gamN_ok)) (.cons okFirst (.cons okLast (.cons ok88 (.cons ok69 (.cons ok65 (.cons ok77 (.cons ok86 .nil)))))))))))))))))))))))
theorem okMoveF : SumOk Try.prog 51 (S 25 (moveO FP)) := okMove gamFP
theorem okMoveR : SumOk Try.prog 52 (S 27 (rmoveO RP)) := rmoveO_ok gamRP
end Go.Ab
/- The filter's Move and the document's are the same: facts of the pieces. -/
namespace Go.Ab
open Go Go.Proofs
theorem bad_vs : Bad (vop fsub) := fun _ => rfl
theorem bad_va : Bad (vop fadd) := fun _ => rfl
theorem bad_mu : Bad qmul := fun _ => rfl
theorem bad_un : Bad (qunit opsF) := fun a => by
  show (qunitF opsF a.1 (qlen opsF true a.1).1 (bif decide ((qlen opsF true a.1).1 < 549755813888) then true else (qlen opsF true a.1).2)).2 = true
  have h : (qlen opsF true a.1).2 = true := rfl
  rw [h]
  cases decide ((qlen opsF true a.1).1 < 549755813888) <;> rfl
theorem bad_fr : Bad frF := fun a => by
  have h : (rodAt opsF vopsF true a.1).2 = true := rfl
  show (qunit opsF (rodAt opsF vopsF true a.1).2 _).2 = true
  rw [h]
  exact bad_un _
theorem bad_tr : Bad (toRod opsF) := fun _ => rfl
theorem bad_pt : Bad ptF := fun a => by
  show (restJ opsF jobsP (opsF.sqrt (matRootN opsF true (a.1.p, 6, ())).2 7696581394432) _).2 = true
  have h : (opsF.sqrt (matRootN opsF true (a.1.p, 6, ())).2 7696581394432) = (0, true) := rfl
  rw [h]
  unfold restJ
  exact runJ_bad ..
theorem bad_tu : Bad tuF := fun a => by
  show (qmul (frF true (a.1, ())).2 _).2 = true
  rw [bad_fr]
  exact bad_mu _
theorem bad_att : Bad (attO qmul frF) := fun a => by
  show (qmul (frF true ((halvesV a.2.1).a, ())).2 _).2 = true
  rw [bad_fr]
  exact bad_mu _
theorem bad_mv1 (q : V4) (rate : V3) (ms : Int) (r : R6) : (mv1 FP q rate ms r true).2 = true := by
  unfold mv1
  dsimp only
  have h : (tuF true ((halvesV r).a, q, ())).2 = true := bad_tu _
  show (tuF (tuF true ((halvesV r).a, q, ())).2 _).2 = true
  rw [h]
  exact bad_tu _
theorem bad_rv1 (g : Gs) (rate : V3) (ms : Int) (r : R6) : (rv1 RP g rate ms r true).2 = true := by
  unfold rv1
  dsimp only
  show (qmul (attO qmul frF (frF true _).2 (g, r, ())).2 _).2 = true
  rw [bad_fr, bad_att]
  exact bad_mu _
theorem mvF1_2 (F : FOps) (q : V4) (rate : V3) (ms : Int) (x : X13) (k : Nat) (z : Mx × Bool) : (mvF1 F q rate ms x k z).2 = (mv1 F q rate ms (x.row k) z.2).2 := rfl
theorem rvF5_2 (F : ROps) (g : Gs) (rate : V3) (ms : Int) (x : X13) (k : Nat) (z : Mx × Bool) : (rvF5 F g rate ms x k z).2 = (rv1 F g rate ms (x.row k) z.2).2 := rfl
theorem mvF1_is (F : FOps) (q : V4) (rate : V3) (ms : Int) (x : X13) (k : Nat) (z : Mx × Bool) : mvF1 F q rate ms x k z = (setT z.1 k (mv1 F q rate ms (x.row k) z.2).1, (mv1 F q rate ms (x.row k) z.2).2) := rfl
theorem rvF5_is (F : ROps) (g : Gs) (rate : V3) (ms : Int) (x : X13) (k : Nat) (z : Mx × Bool) : rvF5 F g rate ms x k z = (setT z.1 k (rv1 F g rate ms (x.row k) z.2).1, (rv1 F g rate ms (x.row k) z.2).2) := rfl
theorem mvF2_is (F : FOps) (mid : V4) (x : X13) (T : Mx) (k : Nat) (z : Mx × Bool) : mvF2 F mid x T k z = (setX z.1 k (mv2 F mid (v4of (T k)) (x.row k) z.2).1, (mv2 F mid (v4of (T k)) (x.row k) z.2).2) := rfl
theorem mv2_is (F : FOps) (mid t : V4) (r : R6) (b : Bool) : mv2 F mid t r b = (joinV (F.tr (F.mu b (t, F.bk (mid, ()), ())).2 ((F.mu b (t, F.bk (mid, ()), ())).1, ())).1 (halvesV r).b, (F.tr (F.mu b (t, F.bk (mid, ()), ())).2 ((F.mu b (t, F.bk (mid, ()), ())).1, ())).2) := rfl
theorem rv2_is (F : ROps) (mid t : V4) (b : Bool) : rv2 F mid t b = F.tr (F.mu b (t, F.bk (mid, ()), ())).2 ((F.mu b (t, F.bk (mid, ()), ())).1, ()) := rfl
theorem bad_mv2 (mid t : V4) (r : R6) : (mv2 FP mid t r true).2 = true := by
  rw [mv2_is]
  show (toRod opsF (qmul true (t, qback (mid, ()), ())).2 ((qmul true (t, qback (mid, ()), ())).1, ())).2 = true
  rw [bad_mu]
  exact bad_tr _
theorem bad_rv2 (mid t : V4) : (rv2 RP mid t true).2 = true := by
  rw [rv2_is]
  show (toRod opsF (qmul true (t, qback (mid, ()), ())).2 ((qmul true (t, qback (mid, ()), ())).1, ())).2 = true
  rw [bad_mu]
  exact bad_tr _
theorem Same.set {p q : V4 × Bool} (h : Same p q) (d : Mx) (i : Nat) : Same (setT d i p.1, p.2) (setT d i q.1, q.2) := ⟨h.1, fun hp => by rw [h.2 hp]⟩
/-- The rounds of the points behind the move. -/
theorem loop1_same (g : Gs) (rate : V3) (ms : Int) (x : X13) : Same (iterF (mvF1 FP g.q (vop fsub false (rate, g.bias, ())).1 ms x) 0 13 (mx0, (vop fsub false (rate, g.bias, ())).2)) (iterF (rvF5 RP g rate ms x) 0 13 (mx0, false)) := by
  have hP : ∀ (ra : V3) i d, (mvF1 FP g.q ra ms x i (d, true)).2 = true := fun ra i d => by rw [mvF1_2]; exact bad_mv1 g.q ra ms (x.row i)
  have hQ : ∀ i d, (rvF5 RP g rate ms x i (d, true)).2 = true := fun i d => by rw [rvF5_2]; exact bad_rv1 g rate ms (x.row i)
  rcases hr : vop fsub false (rate, g.bias, ()) with ⟨ra, f⟩
  cases f with
  | false =>
    refine iter_same (hP ra) hQ (fun i d => ?_) 13 0 (.rfl' _)
    have hs := round_same (vop fsub) fpart frF qmul (fun _ _ _ => rfl) bad_fr bad_mu FP RP ⟨rfl, rfl, rfl⟩ ⟨rfl, rfl, rfl, rfl, rfl⟩ g rate ra hr ms (x.row i)
    rw [mvF1_is, rvF5_is]
    dsimp only
    revert hs
    generalize mv1 FP g.q ra ms (x.row i) false = p1
    generalize rv1 RP g rate ms (x.row i) false = p2
    intro hs
    exact hs.set d i
  | true =>
    refine .of_bad (iter_bad (hP ra) 13 0 mx0) ?_
    have h0 : ∀ d, (rvF5 RP g rate ms x 0 (d, false)).2 = true := fun d => by
      rw [rvF5_2]
      dsimp only
      unfold rv1
      dsimp only
      rw [show RP.vs false (rate, g.bias, ()) = (ra, true) from hr]
      show (qmul (attO qmul frF (frF true _).2 (g, x.row 0, ())).2 _).2 = true
      rw [bad_fr, bad_att]
      exact bad_mu _
    show (iterF (rvF5 RP g rate ms x) 1 12 (rvF5 RP g rate ms x 0 (mx0, false))).2 = true
    have h1 := h0 mx0
    rcases hq : rvF5 RP g rate ms x 0 (mx0, false) with ⟨d1, f1⟩
    rw [hq] at h1
    have : f1 = true := h1
    subst this
    exact iter_bad hQ 12 1 d1
theorem row_at (x : X13) {k : Nat} (hk : k < 13) (c : Nat) : x.at k c = (x.row k).at c := by
  match k, hk with
  | 0, _ => rfl
  | 1, _ => rfl
  | 2, _ => rfl
  | 3, _ => rfl
  | 4, _ => rfl
  | 5, _ => rfl
  | 6, _ => rfl
  | 7, _ => rfl
  | 8, _ => rfl
  | 9, _ => rfl
  | 10, _ => rfl
  | 11, _ => rfl
  | 12, _ => rfl
  | n + 13, h => omega
theorem loop2_eq (x : X13) (T : Mx) (mid : V4) : ∀ (n i : Nat) (X : Mx) (f : Bool), i + n = 13 → (∀ k, i ≤ k → k < 13 → ∀ c, 3 ≤ c → X k c = (x.row k).at c) → iterF (mvF2 FP mid x T) i n (X, f) = iterF (rvF8 RP T mid) i n (X, f)
  | 0, _, _, _, _, _ => rfl
  | n + 1, i, X, f, hn, hX => by
    have hs : setX X i (mv2 FP mid (v4of (T i)) (x.row i) f).1 = setE X i (rv2 RP mid (v4of (T i)) f).1 := by
      funext a c
      unfold setX setE
      cases ha : Nat.beq a i
      · rfl
      · have : a = i := Nat.eq_of_beq_eq_true ha
        subst this
        simp only [cond_true]
        match c with
        | 0 => rfl
        | 1 => rfl
        | 2 => rfl
        | c + 3 =>
          rw [hX a (Nat.le_refl a) (by omega) (c + 3) (by omega)]
          match c with
          | 0 => rfl
          | 1 => rfl
          | 2 => rfl
          | c + 3 => rfl
    show iterF (mvF2 FP mid x T) (i + 1) n (setX X i (mv2 FP mid (v4of (T i)) (x.row i) f).1, (rv2 RP mid (v4of (T i)) f).2) = iterF (rvF8 RP T mid) (i + 1) n (setE X i (rv2 RP mid (v4of (T i)) f).1, (rv2 RP mid (v4of (T i)) f).2)
    rw [hs]
    refine loop2_eq x T mid n (i + 1) _ _ (by omega) fun k h1 h2 c hc => ?_
    unfold setE
    have hb : Nat.beq k i = false := by
      cases hq : Nat.beq k i
      · rfl
      · have := Nat.eq_of_beq_eq_true hq
        omega
    rw [hb, cond_false]
    exact hX k (by omega) h2 c hc
/-- The rows less their mean. -/
theorem mean_fun (X : Mx) : ctPA opsF (x13of X).at = rvF11 RP X := by
  funext i z
  have hc : (fun k => (x13of X).at k i) = col (x13of X) (i : Int) := by
    funext k
    unfold col
    rw [Int.toNat_natCast]
  unfold ctPA rvF11
  rw [hc, show RP.mn z.2 (x13of X, (i : Int), ()) = meanO opsF z.2 (col (x13of X) (i : Int)) from meanR_eq _ _]
theorem sub_fun (o : Ops) (m : Nat → Int) (k : Nat) (z : Mx × Bool) : subRow o m k 0 6 z = subRow o (R6.of m).at k 0 6 z := rfl
theorem less_fun (m : Nat → Int) : ctPM opsF m = rlF2 opsF (R6.of m) := by
  funext i z
  unfold ctPM rlF2
  exact sub_fun opsF m i z
theorem center_same (X : Mx) (b : Bool) : centerV opsF b (x13of X) = (⟨(lessO opsF (iterF (rvF11 RP X) 0 6 (fun _ => 0, b)).2 (x13of X, R6.of (iterF (rvF11 RP X) 0 6 (fun _ => 0, b)).1, ())).1, R6.of (iterF (rvF11 RP X) 0 6 (fun _ => 0, b)).1⟩, (lessO opsF (iterF (rvF11 RP X) 0 6 (fun _ => 0, b)).2 (x13of X, R6.of (iterF (rvF11 RP X) 0 6 (fun _ => 0, b)).1, ())).2) := by
  unfold centerV centerO lessO
  dsimp only
  rw [mean_fun, less_fun]
theorem row_loop (x y : X13) (i : Nat) : ∀ (n j : Nat) (z : Mx × Bool), iterF (prJ_F opsF x.at y.at i) j n z = rowP RP.pr x y i j n z
  | 0, _, _ => rfl
  | n + 1, j, z => by
    show iterF (prJ_F opsF x.at y.at i) (j + 1) n (prJ_F opsF x.at y.at i j z) = rowP RP.pr x y i (j + 1) n (setM z.1 i j (prV opsF (mnV opsF) z.2 (x, (i : Int), y, (j : Int), ())).1, (prV opsF (mnV opsF) z.2 (x, (i : Int), y, (j : Int), ())).2)
    rw [pm_is]
    exact row_loop x y i n (j + 1) _
theorem prod_same (x : X13) (b : Bool) : prodO opsF b x.at x.at = iterF (rvF15 RP x) 0 6 (mx0, b) := by
  unfold prodO
  have h : prI_F opsF x.at x.at = rvF15 RP x := by
    funext i z
    exact row_loop x x i 6 0 z
  rw [h]
end Go.Ab
/- The filter's Move is the document's. -/
namespace Go.Ab
open Go Go.Proofs
def on6 (o : Ops) (ms : Int) (P : Mx) (b : Bool) : Mx × Bool :=
  let a := o.part b 65536 ms 1000
  let d := o.part a.2 1024 ms 1000
  let s0 := o.add d.2 (P 0 0) a.1
  let s1 := o.add s0.2 (P 1 1) a.1
  let s2 := o.add s1.2 (P 2 2) a.1
  let s3 := o.add s2.2 (P 3 3) d.1
  let s4 := o.add s3.2 (P 4 4) d.1
  let s5 := o.add s4.2 (P 5 5) d.1
  (setM (setM (setM (setM (setM (setM P 0 0 s0.1) 1 1 s1.1) 2 2 s2.1) 3 3 s3.1) 4 4 s4.1) 5 5 s5.1, s5.2)
def rv6 (o : Ops) (ms : Int) (P : Mx) (b : Bool) : Mx × Bool :=
  let a0 := o.part b 65536 ms 1000
  let s0 := o.add a0.2 (P 0 0) a0.1
  let c0 := o.part s0.2 1024 ms 1000
  let t0 := o.add c0.2 (P 3 3) c0.1
  let a1 := o.part t0.2 65536 ms 1000
  let s1 := o.add a1.2 (P 1 1) a1.1
  let c1 := o.part s1.2 1024 ms 1000
  let t1 := o.add c1.2 (P 4 4) c1.1
  let a2 := o.part t1.2 65536 ms 1000
  let s2 := o.add a2.2 (P 2 2) a2.1
  let c2 := o.part s2.2 1024 ms 1000
  let t2 := o.add c2.2 (P 5 5) c2.1
  (setM (setM (setM (setM (setM (setM P 0 0 s0.1) 3 3 t0.1) 1 1 s1.1) 4 4 t1.1) 2 2 s2.1) 5 5 t2.1, t2.2)
theorem rv6_is (F : ROps) (ms : Int) (P : Mx) (b : Bool) : iterF (rvF17 F ms) 0 3 (P, b) = rv6 F.o ms P b := by kernel_rfl
def asM (z : Mx × Bool) : M6 × Bool := (M6.of z.1, z.2)
theorem on6_is (ms : Int) (P : Mx) (b : Bool) : mv3 FP ms (M6.of P) b = asM (on6 opsF ms P b) := by kernel_rfl
theorem set6 (P : Mx) (a b c d e f : Int) : M6.of (setM (setM (setM (setM (setM (setM P 0 0 a) 1 1 b) 2 2 c) 3 3 d) 4 4 e) 5 5 f) = M6.of (setM (setM (setM (setM (setM (setM P 0 0 a) 3 3 d) 1 1 b) 4 4 e) 2 2 c) 5 5 f) := by kernel_rfl
theorem on6_same (o : Ops) (hp : ∀ x y z, (o.part true x y z).2 = true) (ha : ∀ x y, (o.add true x y).2 = true) (ms : Int) (P : Mx) : Same (asM (on6 o ms P false)) (asM (rv6 o ms P false)) := by
  unfold on6 rv6 asM
  dsimp only
  rcases e1 : o.part false 65536 ms 1000 with ⟨a, f1⟩
  cases f1
  · rcases e2 : o.part false 1024 ms 1000 with ⟨d, f2⟩
    cases f2
    · rcases h0 : o.add false (P 0 0) a with ⟨s0, g0⟩
      cases g0
      · rcases h1 : o.add false (P 1 1) a with ⟨s1, g1⟩
        cases g1
        · rcases h2 : o.add false (P 2 2) a with ⟨s2, g2⟩
          cases g2
          · rcases h3 : o.add false (P 3 3) d with ⟨s3, g3⟩
            cases g3
            · rcases h4 : o.add false (P 4 4) d with ⟨s4, g4⟩
              cases g4
              · rcases h5 : o.add false (P 5 5) d with ⟨s5, g5⟩
                dsimp only
                rw [e2]; dsimp only
                rw [h3]; dsimp only
                rw [e1]; dsimp only
                rw [h1]; dsimp only
                rw [e2]; dsimp only
                rw [h4]; dsimp only
                rw [e1]; dsimp only
                rw [h2]; dsimp only
                rw [e2]; dsimp only
                rw [h5]; dsimp only
                rw [set6]
                exact .rfl' _
              · refine .of_bad ?_ ?_ <;> simp_all
            · refine .of_bad ?_ ?_ <;> simp_all
          · rcases h3 : o.add false (P 3 3) d with ⟨s3, g3⟩
            rcases h4 : o.add false (P 4 4) d with ⟨s4, g4⟩
            refine .of_bad ?_ ?_ <;> cases g3 <;> cases g4 <;> simp_all
        · rcases h3 : o.add false (P 3 3) d with ⟨s3, g3⟩
          refine .of_bad ?_ ?_ <;> cases g3 <;> simp_all
      · refine .of_bad ?_ ?_ <;> simp_all
    · rcases h0 : o.add false (P 0 0) a with ⟨s0, g0⟩
      refine .of_bad ?_ ?_ <;> cases g0 <;> simp_all
  · refine .of_bad ?_ ?_ <;> simp_all
end Go.Ab
/- The filter's Move is the document's: all. -/
namespace Go.Ab
open Go Go.Proofs
def tl (mid : V4) (bias : V3) (m : R6) (w : M6 × Bool) : Gs × Bool :=
  let t := tuF w.2 ((halvesV m).a, mid, ())
  let u := qunit opsF t.2 (t.1, ())
  let c := vop fadd u.2 (bias, (halvesV m).b, ())
  (bif c.2 then Gs.zero else ⟨u.1, c.1, w.1⟩, c.2)
theorem tl_bad (mid : V4) (bias : V3) (m : R6) (p : M6) : tl mid bias m (p, true) = (Gs.zero, true) := by
  unfold tl
  dsimp only
  rw [bad_tu, bad_un, bad_va]
  rfl
theorem tl_same (mid : V4) (bias : V3) (m : R6) {x y : M6 × Bool} (h : Same x y) : tl mid bias m x = tl mid bias m y := by
  obtain ⟨x, f⟩ := x
  obtain ⟨y, e⟩ := y
  have h1 : f = e := h.1
  subst h1
  cases f with
  | true => rw [tl_bad, tl_bad]
  | false => rw [h.2 rfl]
theorem st_tl (mid : V4) (bias : V3) (m : R6) (w : M6 × Bool) : ((stF w.2 (mid, bias, m, w.1, ())).1.a, (stF w.2 (mid, bias, m, w.1, ())).2) = tl mid bias m w := by
  unfold stF settleO settle0 tl
  dsimp only
  generalize vop fadd (qunit opsF (tuF w.2 ((halvesV m).a, mid, ())).2 ((tuF w.2 ((halvesV m).a, mid, ())).1, ())).2 (bias, (halvesV m).b, ()) = c
  obtain ⟨c, f⟩ := c
  cases f <;> rfl
def pM2 (g : Gs) (ms : Int) (x : X13) (z : Mx × Bool) : Gs × Bool :=
  let mid := qunit opsF z.2 (v4of (z.1 0), ())
  let y := iterF (mvF2 FP mid.1 x z.1) 0 13 (x.at, mid.2)
  let c := centerV opsF y.2 (x13of y.1)
  let p := prodO opsF c.2 c.1.x.at c.1.x.at
  tl mid.1 g.bias c.1.m (mv3 FP ms (M6.of p.1) p.2)
def dM3 (g : Gs) (ms : Int) (mid : V4) (y : Mx × Bool) : Gs × Bool :=
  let m := iterF (rvF11 RP y.1) 0 6 (fun _ => 0, y.2)
  let d := lessO opsF m.2 (x13of y.1, R6.of m.1, ())
  let p := iterF (rvF15 RP d.1) 0 6 (mx0, d.2)
  tl mid g.bias (R6.of m.1) (asM (iterF (rvF17 RP ms) 0 3 (p.1, p.2)))
def dM2 (g : Gs) (ms : Int) (x : X13) (z : Mx × Bool) : Gs × Bool :=
  let mid := qunit opsF z.2 (v4of (z.1 0), ())
  dM3 g ms mid.1 (iterF (rvF8 RP z.1 mid.1) 0 13 (x.at, mid.2))
theorem diag_eq (ms : Int) (mid : V4) (bias : V3) (m : R6) (P : Mx) (b : Bool) : tl mid bias m (mv3 FP ms (M6.of P) b) = tl mid bias m (asM (iterF (rvF17 RP ms) 0 3 (P, b))) := by
  rw [on6_is, rv6_is]
  cases b with
  | false => exact tl_same mid bias m (on6_same opsF (fun _ _ _ => rfl) (fun _ _ => rfl) ms P)
  | true =>
    refine tl_same mid bias m (.of_bad ?_ ?_)
    · rfl
    · rfl
theorem pM2_eq (g : Gs) (ms : Int) (x : X13) (z : Mx × Bool) : pM2 g ms x z = dM2 g ms x z := by
  unfold pM2 dM2 dM3
  dsimp only
  rw [loop2_eq x z.1 (qunit opsF z.2 (v4of (z.1 0), ())).1 13 0 x.at _ rfl fun k _ hk c _ => row_at x hk c]
  generalize iterF (rvF8 RP z.1 (qunit opsF z.2 (v4of (z.1 0), ())).1) 0 13 (x.at, (qunit opsF z.2 (v4of (z.1 0), ())).2) = y
  rw [center_same]
  dsimp only
  generalize iterF (rvF11 RP y.1) 0 6 (fun _ => 0, y.2) = m
  generalize lessO opsF m.2 (x13of y.1, R6.of m.1, ()) = d
  rw [prod_same]
  generalize iterF (rvF15 RP d.1) 0 6 (mx0, d.2) = p
  obtain ⟨p, f⟩ := p
  exact diag_eq ms _ g.bias (R6.of m.1) p f
theorem subRow_bad (m : Nat → Int) (k : Nat) : ∀ (n i : Nat) (X : Mx), (subRow opsF m k i n (X, true)).2 = true
  | 0, _, _ => rfl
  | n + 1, i, _ => subRow_bad m k n (i + 1) _
theorem rowP_bad (x y : X13) (i : Nat) : ∀ (n j : Nat) (X : Mx), (rowP RP.pr x y i j n (X, true)).2 = true
  | 0, _, _ => rfl
  | n + 1, j, X => by
    show (rowP RP.pr x y i (j + 1) n (setM X i j (prV opsF (mnV opsF) true (x, (i : Int), y, (j : Int), ())).1, (prV opsF (mnV opsF) true (x, (i : Int), y, (j : Int), ())).2)).2 = true
    rw [pm_is]
    have h : (pmO opsF true (col x (i : Int)) (col y (j : Int))).2 = true := by
      have h := pmN_bad (col x (i : Int)) (col y (j : Int)) 12 1 0
      show (fpart (pmN opsF (col x (i : Int)) (col y (j : Int)) 1 12 (0, true)).2 (pmN opsF (col x (i : Int)) (col y (j : Int)) 1 12 (0, true)).1 1 14).2 = true
      rw [h, fpart_bad]
    rw [h]
    exact rowP_bad x y i n (j + 1) _
theorem rvF8_2 (F : ROps) (T : Mx) (mid : V4) (k : Nat) (z : Mx × Bool) : (rvF8 F T mid k z).2 = (rv2 F mid (v4of (T k)) z.2).2 := rfl
theorem rvF15_is (F : ROps) (d : X13) (k : Nat) (z : Mx × Bool) : rvF15 F d k z = rowP F.pr d d k 0 6 (z.1, z.2) := rfl
theorem lessO_2 (o : Ops) (b : Bool) (x : X13) (m : R6) : (lessO o b (x, m, ())).2 = (iterF (rlF2 o m) 0 13 (x.at, b)).2 := rfl
theorem rlF2_is (o : Ops) (m : R6) (k : Nat) (z : Mx × Bool) : rlF2 o m k z = subRow o m.at k 0 6 (z.1, z.2) := rfl
theorem rvF11_2 (F : ROps) (X : Mx) (k : Nat) (z : (Nat → Int) × Bool) : (rvF11 F X k z).2 = (F.mn z.2 (x13of X, (k : Int), ())).2 := rfl
theorem mn_is (b : Bool) (x : X13) (i : Int) : RP.mn b (x, i, ()) = meanO opsF b (col x i) := meanR_eq _ _
theorem dM2_bad (g : Gs) (ms : Int) (x : X13) (T : Mx) : dM2 g ms x (T, true) = (Gs.zero, true) := by
  unfold dM2
  dsimp only
  rcases hq : qunit opsF true (v4of (T 0), ()) with ⟨mid, f⟩
  have h := bad_un (v4of (T 0), ())
  rw [hq] at h
  have : f = true := h
  subst this
  dsimp only
  have h8 : (iterF (rvF8 RP T mid) 0 13 (x.at, true)).2 = true := iter_bad (P := rvF8 RP T mid) (fun i d => by rw [rvF8_2]; exact bad_rv2 mid (v4of (T i))) 13 0 x.at
  generalize iterF (rvF8 RP T mid) 0 13 (x.at, true) = y at h8
  obtain ⟨y, f⟩ := y
  have : f = true := h8
  subst this
  unfold dM3
  dsimp only
  have h11 : (iterF (rvF11 RP y) 0 6 (fun _ => 0, true)).2 = true := iter_bad (P := rvF11 RP y) (fun i d => by
    rw [rvF11_2, mn_is, meanO_bad]) 6 0 _
  generalize iterF (rvF11 RP y) 0 6 (fun _ => 0, true) = m at h11
  obtain ⟨m, f⟩ := m
  have : f = true := h11
  subst this
  dsimp only
  have hl : (lessO opsF true (x13of y, R6.of m, ())).2 = true := by
    rw [lessO_2]
    exact iter_bad (P := rlF2 opsF (R6.of m)) (fun i d => by rw [rlF2_is]; exact subRow_bad _ i 6 0 d) 13 0 _
  generalize lessO opsF true (x13of y, R6.of m, ()) = d at hl
  obtain ⟨d, f⟩ := d
  have : f = true := hl
  subst this
  dsimp only
  have h15 : (iterF (rvF15 RP d) 0 6 (mx0, true)).2 = true := iter_bad (P := rvF15 RP d) (fun i e => by rw [rvF15_is]; exact rowP_bad d d i 6 0 e) 6 0 mx0
  generalize iterF (rvF15 RP d) 0 6 (mx0, true) = p at h15
  obtain ⟨p, f⟩ := p
  have : f = true := h15
  subst this
  dsimp only
  rw [rv6_is]
  have h6 : (asM (rv6 RP.o ms p true)).2 = true := rfl
  generalize asM (rv6 RP.o ms p true) = w at h6
  obtain ⟨w, f⟩ := w
  have : f = true := h6
  subst this
  exact tl_bad ..
theorem dM2_same (g : Gs) (ms : Int) (x : X13) {y z : Mx × Bool} (h : Same y z) : dM2 g ms x y = dM2 g ms x z := by
  obtain ⟨y, f⟩ := y
  obtain ⟨z, e⟩ := z
  have h1 : f = e := h.1
  subst h1
  cases f with
  | true => rw [dM2_bad, dM2_bad]
  | false => rw [h.2 rfl]
theorem FP_un : FP.un = qunit opsF := rfl
theorem FP_vs : FP.vs = vop fsub := rfl
theorem FP_pt : FP.pt = ptF := rfl
theorem FP_cen : FP.cen = centerV opsF := rfl
theorem FP_pro : FP.pro = prodV opsF := rfl
theorem FP_st : FP.st = stF := rfl
theorem RP_un : RP.un = qunit opsF := rfl
theorem RP_pt : RP.pt = ptF := rfl
theorem RP_ls : RP.ls = lessO opsF := rfl
theorem RP_va : RP.va = vop fadd := rfl
theorem RP_fr : RP.fr = frF := rfl
theorem RP_mu : RP.mu = qmul := rfl
theorem prodV_is (b : Bool) (x y : X13) : prodV opsF b x y = (M6.of (prodO opsF b x.at y.at).1, (prodO opsF b x.at y.at).2) := rfl
theorem rv4_is (F : ROps) (mid : V4) (m : Nat → Int) (b : Bool) : rv4 F mid m b = F.un (F.mu (F.fr b ((halvesV (R6.of m)).a, ())).2 ((F.fr b ((halvesV (R6.of m)).a, ())).1, mid, ())).2 ((F.mu (F.fr b ((halvesV (R6.of m)).a, ())).2 ((F.fr b ((halvesV (R6.of m)).a, ())).1, mid, ())).1, ()) := rfl
theorem tuF_is (b : Bool) (p : V3) (q : V4) : tuF b (p, q, ()) = qmul (frF b (p, ())).2 ((frF b (p, ())).1, q, ()) := rfl
theorem rv4_tl (mid : V4) (bias : V3) (m : Nat → Int) (w : Mx × Bool) : ((bif (vop fadd (rv4 RP mid m w.2).2 (bias, (halvesV (R6.of m)).b, ())).2 then Gs.zero else ⟨(rv4 RP mid m w.2).1, (vop fadd (rv4 RP mid m w.2).2 (bias, (halvesV (R6.of m)).b, ())).1, M6.of w.1⟩), (vop fadd (rv4 RP mid m w.2).2 (bias, (halvesV (R6.of m)).b, ())).2) = tl mid bias (R6.of m) (asM w) := by
  unfold tl asM
  dsimp only
  rw [rv4_is, RP_un, RP_fr, RP_mu, tuF_is]
def pG (F : FOps) (g : Gs) (ms : Int) (x : X13) (z : Mx × Bool) : Gs × Bool :=
  let mid := F.un z.2 (v4of (z.1 0), ())
  let y := iterF (mvF2 F mid.1 x z.1) 0 13 (x.at, mid.2)
  let c := F.cen y.2 (x13of y.1)
  let p := F.pro c.2 c.1.x c.1.x
  let n := mv3 F ms p.1 p.2
  let s := F.st n.2 (mid.1, g.bias, c.1.m, n.1, ())
  (s.1.a, s.2)
theorem moveO_is (F : FOps) (b : Bool) (g : Gs) (rate : V3) (ms : Int) : moveO F b (g, rate, ms, ()) =
    pG F g ms (F.pt (moveB ms b) (g, ())).1 (iterF (mvF1 F g.q (F.vs (F.pt (moveB ms b) (g, ())).2 (rate, g.bias, ())).1 ms (F.pt (moveB ms b) (g, ())).1) 0 13 (mx0, (F.vs (F.pt (moveB ms b) (g, ())).2 (rate, g.bias, ())).2)) := rfl
theorem pG_is (g : Gs) (ms : Int) (x : X13) (z : Mx × Bool) : pG FP g ms x z = pM2 g ms x z := by
  have h1 : ∀ (bias : V3) (mid : V4) (m : R6) (p : M6 × Bool), ((FP.st (mv3 FP ms p.1 p.2).2 (mid, bias, m, (mv3 FP ms p.1 p.2).1, ())).1.a, (FP.st (mv3 FP ms p.1 p.2).2 (mid, bias, m, (mv3 FP ms p.1 p.2).1, ())).2) = tl mid bias m (mv3 FP ms p.1 p.2) := fun bias mid m p => by
    rw [FP_st, st_tl]
  have h2 : ∀ (bias : V3) (mid : V4) (m : R6) (f : Bool) (x : X13), tl mid bias m (mv3 FP ms (FP.pro f x x).1 (FP.pro f x x).2) = tl mid bias m (mv3 FP ms (M6.of (prodO opsF f x.at x.at).1) (prodO opsF f x.at x.at).2) := fun bias mid m f x => by
    rw [FP_pro, prodV_is]
  refine (h1 g.bias _ _ _).trans ((h2 g.bias _ _ _ _).trans ?_)
  rw [FP_un, FP_cen]
  rfl
def dG3 (F : ROps) (g : Gs) (ms : Int) (mid : V4) (y : Mx × Bool) : Gs × Bool :=
  let m := iterF (rvF11 F y.1) 0 6 (fun _ => 0, y.2)
  let d := F.ls m.2 (x13of y.1, R6.of m.1, ())
  let p := iterF (rvF15 F d.1) 0 6 (mx0, d.2)
  let w := iterF (rvF17 F ms) 0 3 (p.1, p.2)
  let q := rv4 F mid m.1 w.2
  let c := F.va q.2 (g.bias, (halvesV (R6.of m.1)).b, ())
  ((bif c.2 then Gs.zero else ⟨q.1, c.1, M6.of w.1⟩), c.2)
def dG (F : ROps) (g : Gs) (ms : Int) (x : X13) (z : Mx × Bool) : Gs × Bool :=
  let mid := F.un z.2 (v4of (z.1 0), ())
  dG3 F g ms mid.1 (iterF (rvF8 F z.1 mid.1) 0 13 (x.at, mid.2))
theorem rmoveO_is (F : ROps) (b : Bool) (g : Gs) (rate : V3) (ms : Int) : rmoveO F b (g, rate, ms, ()) =
    dG F g ms (F.pt (moveB ms b) (g, ())).1 (iterF (rvF5 F g rate ms (F.pt (moveB ms b) (g, ())).1) 0 13 (mx0, (F.pt (moveB ms b) (g, ())).2)) := rfl
def finG (F : ROps) (mid : V4) (bias : V3) (m : Nat → Int) (w : Mx × Bool) : Gs × Bool :=
  let q := rv4 F mid m w.2
  let c := F.va q.2 (bias, (halvesV (R6.of m)).b, ())
  ((bif c.2 then Gs.zero else ⟨q.1, c.1, M6.of w.1⟩), c.2)
def dG4 (F : ROps) (g : Gs) (ms : Int) (mid : V4) (y : Mx × Bool) (m : (Nat → Int) × Bool) : Gs × Bool :=
  finG F mid g.bias m.1 (iterF (rvF17 F ms) 0 3 ((iterF (rvF15 F (F.ls m.2 (x13of y.1, R6.of m.1, ())).1) 0 6 (mx0, (F.ls m.2 (x13of y.1, R6.of m.1, ())).2)).1, (iterF (rvF15 F (F.ls m.2 (x13of y.1, R6.of m.1, ())).1) 0 6 (mx0, (F.ls m.2 (x13of y.1, R6.of m.1, ())).2)).2))
theorem dG3_form (F : ROps) (g : Gs) (ms : Int) (mid : V4) (y : Mx × Bool) : dG3 F g ms mid y = dG4 F g ms mid y (iterF (rvF11 F y.1) 0 6 (fun _ => 0, y.2)) := rfl
theorem finG_is (mid : V4) (bias : V3) (m : Nat → Int) (w : Mx × Bool) : finG RP mid bias m w = tl mid bias (R6.of m) (asM w) := by
  unfold finG
  rw [RP_va]
  exact rv4_tl mid bias m w
theorem dG3_is (g : Gs) (ms : Int) (mid : V4) (y : Mx × Bool) : dG3 RP g ms mid y = dM3 g ms mid y := by
  rw [dG3_form]
  unfold dG4 dM3
  rw [finG_is, RP_ls]
theorem dG_is (g : Gs) (ms : Int) (x : X13) (z : Mx × Bool) : dG RP g ms x z = dM2 g ms x z := by
  unfold dG dM2
  rw [RP_un]
  dsimp only
  rw [dG3_is]
theorem move_form (b : Bool) (g : Gs) (rate : V3) (ms : Int) : moveO FP b (g, rate, ms, ()) =
    pM2 g ms (ptF (moveB ms b) (g, ())).1 (iterF (mvF1 FP g.q (vop fsub (ptF (moveB ms b) (g, ())).2 (rate, g.bias, ())).1 ms (ptF (moveB ms b) (g, ())).1) 0 13 (mx0, (vop fsub (ptF (moveB ms b) (g, ())).2 (rate, g.bias, ())).2)) := by
  rw [moveO_is, pG_is, FP_pt, FP_vs]
theorem rmove_form (b : Bool) (g : Gs) (rate : V3) (ms : Int) : rmoveO RP b (g, rate, ms, ()) =
    dM2 g ms (ptF (moveB ms b) (g, ())).1 (iterF (rvF5 RP g rate ms (ptF (moveB ms b) (g, ())).1) 0 13 (mx0, (ptF (moveB ms b) (g, ())).2)) := by
  rw [rmoveO_is, dG_is, RP_pt]
/-- What a guess is behind a move is the document's. -/
theorem move_eq (b : Bool) (g : Gs) (rate : V3) (ms : Int) : moveO FP b (g, rate, ms, ()) = rmoveO RP b (g, rate, ms, ()) := by
  rw [move_form, rmove_form, pM2_eq]
  rcases ptF (moveB ms b) (g, ()) with ⟨x, f⟩
  cases f with
  | false => exact dM2_same g ms x (loop1_same g rate ms x)
  | true =>
    refine dM2_same g ms x (.of_bad ?_ ?_)
    · dsimp only
      rw [bad_vs]
      exact iter_bad (fun i d => by rw [mvF1_2]; exact bad_mv1 ..) 13 0 mx0
    · exact iter_bad (fun i d => by rw [rvF5_2]; exact bad_rv1 ..) 13 0 mx0
end Go.Ab
/- The filter's awake: no turn, and no rate. -/
namespace Go.Ab
open Go Go.Proofs
def eqI4 (a b : V4) : Bool := a.w == b.w && (a.x == b.x && (a.y == b.y && (a.z == b.z && true)))
theorem aw20 (st : V4 × Unit → Gs) (mv : Bool → Gs × V3 × Int × Unit → Gs × Bool) (sp : Bool → Gs × Unit → Int × Bool) : fnSum Try.prog { gam := [(45, S0 st), (51, S 25 mv), (49, S 25 sp)] } [] 20 44 [] [] =
    bif eqI4 (mv false (st (⟨0, 0, 0, 1099511627776⟩, ()), ⟨0, 0, 0⟩, 1000, ())).1.q ⟨0, 0, 0, 1099511627776⟩ then bif decide ((mv false (st (⟨0, 0, 0, 1099511627776⟩, ()), ⟨0, 0, 0⟩, 1000, ())).1.p.a.a > (st (⟨0, 0, 0, 1099511627776⟩, ())).p.a.a) then
      bif !(mv false (st (⟨0, 0, 0, 1099511627776⟩, ()), ⟨0, 0, 0⟩, 1000, ())).2 then some (.val (.bool ((sp (mv false (st (⟨0, 0, 0, 1099511627776⟩, ()), ⟨0, 0, 0⟩, 1000, ())).2 (st (⟨0, 0, 0, 1099511627776⟩, ()), ())).1 == 51539607552)), []) else some (.val (.bool false), []) else some (.val (.bool false), []) else some (.val (.bool false), []) := by kernel_rfl
def awG : Gs := start ⟨0, 0, 0, 1099511627776⟩
def awX : X13 := ⟨⟨0, 0, 0, 0, 0, 0⟩, ⟨363629291340, 0, 0, 0, 0, 0⟩, ⟨0, 363629291340, 0, 0, 0, 0⟩, ⟨0, 0, 363629291340, 0, 0, 0⟩, ⟨0, 0, 0, 11363415354, 0, 0⟩, ⟨0, 0, 0, 0, 11363415354, 0⟩, ⟨0, 0, 0, 0, 0, 11363415354⟩, ⟨(-363629291340), 0, 0, 0, 0, 0⟩, ⟨0, (-363629291340), 0, 0, 0, 0⟩, ⟨0, 0, (-363629291340), 0, 0, 0⟩, ⟨0, 0, 0, (-11363415354), 0, 0⟩, ⟨0, 0, 0, 0, (-11363415354), 0⟩, ⟨0, 0, 0, 0, 0, (-11363415354)⟩⟩
def awT0 : V4 := ⟨0, 0, 0, 1099511627776⟩
def awT1 : V4 := ⟨180580210636, 0, 0, 1084581304994⟩
def awT2 : V4 := ⟨0, 180580210636, 0, 1084581304994⟩
def awT3 : V4 := ⟨0, 0, 180580210636, 1084581304994⟩
def awT4 : V4 := ⟨(-5681669748), 0, 0, 1099496947810⟩
def awT5 : V4 := ⟨0, (-5681669748), 0, 1099496947810⟩
def awT6 : V4 := ⟨0, 0, (-5681669748), 1099496947810⟩
def awT7 : V4 := ⟨(-180580210636), 0, 0, 1084581304994⟩
def awT8 : V4 := ⟨0, (-180580210636), 0, 1084581304994⟩
def awT9 : V4 := ⟨0, 0, (-180580210636), 1084581304994⟩
def awT10 : V4 := ⟨5681669748, 0, 0, 1099496947810⟩
def awT11 : V4 := ⟨0, 5681669748, 0, 1099496947810⟩
def awT12 : V4 := ⟨0, 0, 5681669748, 1099496947810⟩
def awR0 : R6 := ⟨0, 0, 0, 0, 0, 0⟩
def awR1 : R6 := ⟨363629291339, 0, 0, 0, 0, 0⟩
def awR2 : R6 := ⟨0, 363629291339, 0, 0, 0, 0⟩
def awR3 : R6 := ⟨0, 0, 363629291339, 0, 0, 0⟩
def awR4 : R6 := ⟨(-11363415354), 0, 0, 11363415354, 0, 0⟩
def awR5 : R6 := ⟨0, (-11363415354), 0, 0, 11363415354, 0⟩
def awR6 : R6 := ⟨0, 0, (-11363415354), 0, 0, 11363415354⟩
def awR7 : R6 := ⟨(-363629291339), 0, 0, 0, 0, 0⟩
def awR8 : R6 := ⟨0, (-363629291339), 0, 0, 0, 0⟩
def awR9 : R6 := ⟨0, 0, (-363629291339), 0, 0, 0⟩
def awR10 : R6 := ⟨11363415354, 0, 0, (-11363415354), 0, 0⟩
def awR11 : R6 := ⟨0, 11363415354, 0, 0, (-11363415354), 0⟩
def awR12 : R6 := ⟨0, 0, 11363415354, 0, 0, (-11363415354)⟩
def awQ : V4 := ⟨0, 0, 0, 1099511627776⟩
def awD : X13 := ⟨⟨0, 0, 0, 0, 0, 0⟩, ⟨363629291339, 0, 0, 0, 0, 0⟩, ⟨0, 363629291339, 0, 0, 0, 0⟩, ⟨0, 0, 363629291339, 0, 0, 0⟩, ⟨(-11363415354), 0, 0, 11363415354, 0, 0⟩, ⟨0, (-11363415354), 0, 0, 11363415354, 0⟩, ⟨0, 0, (-11363415354), 0, 0, 11363415354⟩, ⟨(-363629291339), 0, 0, 0, 0, 0⟩, ⟨0, (-363629291339), 0, 0, 0, 0⟩, ⟨0, 0, (-363629291339), 0, 0, 0⟩, ⟨11363415354, 0, 0, (-11363415354), 0, 0⟩, ⟨0, 11363415354, 0, 0, (-11363415354), 0⟩, ⟨0, 0, 11363415354, 0, 0, (-11363415354)⟩⟩
def awM : R6 := ⟨0, 0, 0, 0, 0, 0⟩
def awP : M6 := ⟨⟨17196646400, 0, 0, (-16777216), 0, 0⟩, ⟨0, 17196646400, 0, 0, (-16777216), 0⟩, ⟨0, 0, 17196646400, 0, 0, (-16777216)⟩, ⟨(-16777216), 0, 0, 16777216, 0, 0⟩, ⟨0, (-16777216), 0, 0, 16777216, 0⟩, ⟨0, 0, (-16777216), 0, 0, 16777216⟩⟩
def awN : M6 := ⟨⟨17196711936, 0, 0, (-16777216), 0, 0⟩, ⟨0, 17196711936, 0, 0, (-16777216), 0⟩, ⟨0, 0, 17196711936, 0, 0, (-16777216)⟩, ⟨(-16777216), 0, 0, 16778240, 0, 0⟩, ⟨0, (-16777216), 0, 0, 16778240, 0⟩, ⟨0, 0, (-16777216), 0, 0, 16778240⟩⟩
def awH : Gs := ⟨⟨0, 0, 0, 1099511627776⟩, ⟨0, 0, 0⟩, ⟨⟨17196711936, 0, 0, (-16777216), 0, 0⟩, ⟨0, 17196711936, 0, 0, (-16777216), 0⟩, ⟨0, 0, 17196711936, 0, 0, (-16777216)⟩, ⟨(-16777216), 0, 0, 16778240, 0, 0⟩, ⟨0, (-16777216), 0, 0, 16778240, 0⟩, ⟨0, 0, (-16777216), 0, 0, 16778240⟩⟩⟩
def awZ : Mx := (setT (setT (setT (setT (setT (setT (setT (setT (setT (setT (setT (setT (setT mx0 0 awT0) 1 awT1) 2 awT2) 3 awT3) 4 awT4) 5 awT5) 6 awT6) 7 awT7) 8 awT8) 9 awT9) 10 awT10) 11 awT11) 12 awT12)
def awY : Mx := (setX (setX (setX (setX (setX (setX (setX (setX (setX (setX (setX (setX (setX awX.at 0 awR0) 1 awR1) 2 awR2) 3 awR3) 4 awR4) 5 awR5) 6 awR6) 7 awR7) 8 awR8) 9 awR9) 10 awR10) 11 awR11) 12 awR12)
theorem aw_pt : FP.pt (moveB 1000 false) (awG, ()) = (awX, false) := by kernel_rfl
theorem aw_vs : FP.vs false ((⟨0, 0, 0⟩ : V3), awG.bias, ()) = (V3.zero, false) := by kernel_rfl
theorem aw_z0 (T : Mx) : mvF1 FP awG.q V3.zero 1000 awX 0 (T, false) = (setT T 0 awT0, false) := by
  have h : mv1 FP awG.q V3.zero 1000 (awX.row 0) false = (awT0, false) := by kernel_rfl
  unfold mvF1
  rw [h]
theorem aw_y0 (T : Mx) : mvF2 FP awQ awX awZ 0 (T, false) = (setX T 0 awR0, false) := by
  have h : mv2 FP awQ (v4of (awZ 0)) (awX.row 0) false = (awR0, false) := by kernel_rfl
  unfold mvF2
  rw [h]
theorem aw_z1 (T : Mx) : mvF1 FP awG.q V3.zero 1000 awX 1 (T, false) = (setT T 1 awT1, false) := by
  have h : mv1 FP awG.q V3.zero 1000 (awX.row 1) false = (awT1, false) := by kernel_rfl
  unfold mvF1
  rw [h]
theorem aw_y1 (T : Mx) : mvF2 FP awQ awX awZ 1 (T, false) = (setX T 1 awR1, false) := by
  have h : mv2 FP awQ (v4of (awZ 1)) (awX.row 1) false = (awR1, false) := by kernel_rfl
  unfold mvF2
  rw [h]
theorem aw_z2 (T : Mx) : mvF1 FP awG.q V3.zero 1000 awX 2 (T, false) = (setT T 2 awT2, false) := by
  have h : mv1 FP awG.q V3.zero 1000 (awX.row 2) false = (awT2, false) := by kernel_rfl
  unfold mvF1
  rw [h]
theorem aw_y2 (T : Mx) : mvF2 FP awQ awX awZ 2 (T, false) = (setX T 2 awR2, false) := by
  have h : mv2 FP awQ (v4of (awZ 2)) (awX.row 2) false = (awR2, false) := by kernel_rfl
  unfold mvF2
  rw [h]
theorem aw_z3 (T : Mx) : mvF1 FP awG.q V3.zero 1000 awX 3 (T, false) = (setT T 3 awT3, false) := by
  have h : mv1 FP awG.q V3.zero 1000 (awX.row 3) false = (awT3, false) := by kernel_rfl
  unfold mvF1
  rw [h]
theorem aw_y3 (T : Mx) : mvF2 FP awQ awX awZ 3 (T, false) = (setX T 3 awR3, false) := by
  have h : mv2 FP awQ (v4of (awZ 3)) (awX.row 3) false = (awR3, false) := by kernel_rfl
  unfold mvF2
  rw [h]
theorem aw_z4 (T : Mx) : mvF1 FP awG.q V3.zero 1000 awX 4 (T, false) = (setT T 4 awT4, false) := by
  have h : mv1 FP awG.q V3.zero 1000 (awX.row 4) false = (awT4, false) := by kernel_rfl
  unfold mvF1
  rw [h]
theorem aw_y4 (T : Mx) : mvF2 FP awQ awX awZ 4 (T, false) = (setX T 4 awR4, false) := by
  have h : mv2 FP awQ (v4of (awZ 4)) (awX.row 4) false = (awR4, false) := by kernel_rfl
  unfold mvF2
  rw [h]
theorem aw_z5 (T : Mx) : mvF1 FP awG.q V3.zero 1000 awX 5 (T, false) = (setT T 5 awT5, false) := by
  have h : mv1 FP awG.q V3.zero 1000 (awX.row 5) false = (awT5, false) := by kernel_rfl
  unfold mvF1
  rw [h]
theorem aw_y5 (T : Mx) : mvF2 FP awQ awX awZ 5 (T, false) = (setX T 5 awR5, false) := by
  have h : mv2 FP awQ (v4of (awZ 5)) (awX.row 5) false = (awR5, false) := by kernel_rfl
  unfold mvF2
  rw [h]
theorem aw_z6 (T : Mx) : mvF1 FP awG.q V3.zero 1000 awX 6 (T, false) = (setT T 6 awT6, false) := by
  have h : mv1 FP awG.q V3.zero 1000 (awX.row 6) false = (awT6, false) := by kernel_rfl
  unfold mvF1
  rw [h]
theorem aw_y6 (T : Mx) : mvF2 FP awQ awX awZ 6 (T, false) = (setX T 6 awR6, false) := by
  have h : mv2 FP awQ (v4of (awZ 6)) (awX.row 6) false = (awR6, false) := by kernel_rfl
  unfold mvF2
  rw [h]
theorem aw_z7 (T : Mx) : mvF1 FP awG.q V3.zero 1000 awX 7 (T, false) = (setT T 7 awT7, false) := by
  have h : mv1 FP awG.q V3.zero 1000 (awX.row 7) false = (awT7, false) := by kernel_rfl
  unfold mvF1
  rw [h]
theorem aw_y7 (T : Mx) : mvF2 FP awQ awX awZ 7 (T, false) = (setX T 7 awR7, false) := by
  have h : mv2 FP awQ (v4of (awZ 7)) (awX.row 7) false = (awR7, false) := by kernel_rfl
  unfold mvF2
  rw [h]
theorem aw_z8 (T : Mx) : mvF1 FP awG.q V3.zero 1000 awX 8 (T, false) = (setT T 8 awT8, false) := by
  have h : mv1 FP awG.q V3.zero 1000 (awX.row 8) false = (awT8, false) := by kernel_rfl
  unfold mvF1
  rw [h]
theorem aw_y8 (T : Mx) : mvF2 FP awQ awX awZ 8 (T, false) = (setX T 8 awR8, false) := by
  have h : mv2 FP awQ (v4of (awZ 8)) (awX.row 8) false = (awR8, false) := by kernel_rfl
  unfold mvF2
  rw [h]
theorem aw_z9 (T : Mx) : mvF1 FP awG.q V3.zero 1000 awX 9 (T, false) = (setT T 9 awT9, false) := by
  have h : mv1 FP awG.q V3.zero 1000 (awX.row 9) false = (awT9, false) := by kernel_rfl
  unfold mvF1
  rw [h]
theorem aw_y9 (T : Mx) : mvF2 FP awQ awX awZ 9 (T, false) = (setX T 9 awR9, false) := by
  have h : mv2 FP awQ (v4of (awZ 9)) (awX.row 9) false = (awR9, false) := by kernel_rfl
  unfold mvF2
  rw [h]
theorem aw_z10 (T : Mx) : mvF1 FP awG.q V3.zero 1000 awX 10 (T, false) = (setT T 10 awT10, false) := by
  have h : mv1 FP awG.q V3.zero 1000 (awX.row 10) false = (awT10, false) := by kernel_rfl
  unfold mvF1
  rw [h]
theorem aw_y10 (T : Mx) : mvF2 FP awQ awX awZ 10 (T, false) = (setX T 10 awR10, false) := by
  have h : mv2 FP awQ (v4of (awZ 10)) (awX.row 10) false = (awR10, false) := by kernel_rfl
  unfold mvF2
  rw [h]
theorem aw_z11 (T : Mx) : mvF1 FP awG.q V3.zero 1000 awX 11 (T, false) = (setT T 11 awT11, false) := by
  have h : mv1 FP awG.q V3.zero 1000 (awX.row 11) false = (awT11, false) := by kernel_rfl
  unfold mvF1
  rw [h]
theorem aw_y11 (T : Mx) : mvF2 FP awQ awX awZ 11 (T, false) = (setX T 11 awR11, false) := by
  have h : mv2 FP awQ (v4of (awZ 11)) (awX.row 11) false = (awR11, false) := by kernel_rfl
  unfold mvF2
  rw [h]
theorem aw_z12 (T : Mx) : mvF1 FP awG.q V3.zero 1000 awX 12 (T, false) = (setT T 12 awT12, false) := by
  have h : mv1 FP awG.q V3.zero 1000 (awX.row 12) false = (awT12, false) := by kernel_rfl
  unfold mvF1
  rw [h]
theorem aw_y12 (T : Mx) : mvF2 FP awQ awX awZ 12 (T, false) = (setX T 12 awR12, false) := by
  have h : mv2 FP awQ (v4of (awZ 12)) (awX.row 12) false = (awR12, false) := by kernel_rfl
  unfold mvF2
  rw [h]
theorem aw_z : iterF (mvF1 FP awG.q V3.zero 1000 awX) 0 13 (mx0, false) = (awZ, false) := by
  simp only [iterF, Nat.zero_add, Nat.reduceAdd, aw_z0, aw_z1, aw_z2, aw_z3, aw_z4, aw_z5, aw_z6, aw_z7, aw_z8, aw_z9, aw_z10, aw_z11, aw_z12]
  rfl
theorem aw_y : iterF (mvF2 FP awQ awX awZ) 0 13 (awX.at, false) = (awY, false) := by
  simp only [iterF, Nat.zero_add, Nat.reduceAdd, aw_y0, aw_y1, aw_y2, aw_y3, aw_y4, aw_y5, aw_y6, aw_y7, aw_y8, aw_y9, aw_y10, aw_y11, aw_y12]
  rfl
theorem aw_un : FP.un false (v4of (awZ 0), ()) = (awQ, false) := by kernel_rfl
theorem aw_cen : FP.cen false (x13of awY) = (⟨awD, awM⟩, false) := by kernel_rfl
theorem aw_pro : FP.pro false awD awD = (awP, false) := by kernel_rfl
theorem aw_mv3 : mv3 FP 1000 awP false = (awN, false) := by kernel_rfl
theorem aw_st : FP.st false (awQ, awG.bias, awM, awN, ()) = (⟨awH, true⟩, false) := by kernel_rfl
theorem aw_move : moveO FP false (awG, ⟨0, 0, 0⟩, 1000, ()) = (awH, false) := by
  unfold moveO
  dsimp only
  rw [aw_pt]
  dsimp only
  rw [aw_vs]
  dsimp only
  rw [aw_z]
  dsimp only
  rw [aw_un]
  dsimp only
  rw [aw_y]
  dsimp only
  rw [aw_cen]
  dsimp only
  rw [aw_pro]
  dsimp only
  rw [aw_mv3]
  dsimp only
  rw [aw_st]
theorem aw_spread : (spread opsF false awG).1 = 51539607552 := by kernel_rfl
theorem aw_gen {st : V4 × Unit → Gs} {mv : Bool → Gs × V3 × Int × Unit → Gs × Bool} {sp : Bool → Gs × Unit → Int × Bool} {g h : Gs} (hg : st (⟨0, 0, 0, 1099511627776⟩, ()) = g) (hm : mv false (g, ⟨0, 0, 0⟩, 1000, ()) = (h, false)) (hq : eqI4 h.q ⟨0, 0, 0, 1099511627776⟩ = true)
    (hp : decide (h.p.a.a > g.p.a.a) = true) (hs : (sp false (g, ())).1 = 51539607552) : fnSum Try.prog { gam := [(45, S0 st), (51, S 25 mv), (49, S 25 sp)] } [] 20 44 [] [] = some (.val (.bool true), []) := by
  rw [aw20, hg, hm]
  dsimp only
  rw [hq, hp, hs]
  rfl
def startV (p : V4 × Unit) : Gs := start p.1
def spreadV (b : Bool) (p : Gs × Unit) : Int × Bool := spread opsF b p.1
def moveV : Bool → Gs × V3 × Int × Unit → Gs × Bool := moveO FP
theorem okStart : SumOk Try.prog 45 (S0 startV) := ok105
theorem okSpread : SumOk Try.prog 49 (S 25 spreadV) := ok109
theorem okMoveV : SumOk Try.prog 51 (S 25 moveV) := okMoveF
theorem okAwake : SumOk Try.prog 44 (S0 fun (_ : Unit) => true) := S0_ok (E := { gam := [(45, S0 startV), (51, S 25 moveV), (49, S 25 spreadV)] }) (.cons okStart (.cons okMoveV (.cons okSpread .nil))) 20 fun a => by
  have e := aw_gen (st := startV) (mv := moveV) (sp := spreadV) (g := awG) (h := awH) rfl aw_move rfl (by decide) aw_spread
  exact e
end Go.Ab
