/- A part of the proofs: lemmas, no statement of their own; no condition. -/
import Derived.Test.YtgccejhdohpojaaNyAll
/- What is solved with the root of a heavy matrix: bounds of every number. -/
namespace Go.Ab
open Go Go.Proofs
theorem mul_gen {a b : Int} (ha : -2199023255552 ≤ a ∧ a ≤ 2199023255552) (hb : -170000000000000000 ≤ b ∧ b ≤ 170000000000000000) :
    ∃ v, fmul false a b = (v, false) ∧ 2 * (a * b) - 1099511627776 ≤ 2199023255552 * v ∧ 2199023255552 * v ≤ 2 * (a * b) + 1099511627776 := by
  have h : fmul false a b = (ratio3 a b 1099511627776, false) := by
    refine fmul_fine (num_small (by omega) (by omega)) (num_small (by omega) (by omega)) ?_
    have h1 := iabs_le (n := 2199023255552) ha
    have h2 := iabs_le (n := 170000000000000000) hb
    have h3 := iabs_nonneg a
    have h4 := iabs_nonneg b
    refine Int.le_trans (Int.le_trans (Int.mul_le_mul_of_nonneg_right h1 h4) (Int.mul_le_mul_of_nonneg_left h2 (by omega))) (by omega)
  exact ⟨_, h, fmul_spec h⟩
theorem sub_gen {a b : Int} (ha : -2300000000000000000 ≤ a ∧ a ≤ 2300000000000000000) (hb : -2300000000000000000 ≤ b ∧ b ≤ 2300000000000000000) : fsub false a b = (a - b, false) :=
  fsub_fine (num_small (by omega) (by omega)) (num_small (by omega) (by omega)) (num_small (by omega) (by omega))
theorem add_gen {a b : Int} (ha : -2300000000000000000 ≤ a ∧ a ≤ 2300000000000000000) (hb : -2300000000000000000 ≤ b ∧ b ≤ 2300000000000000000) : fadd false a b = (a + b, false) :=
  fadd_fine (num_small (by omega) (by omega)) (num_small (by omega) (by omega)) (num_small (by omega) (by omega))
theorem div_gen {s l : Int} (hs : -2300000000000000000 ≤ s ∧ s ≤ 2300000000000000000) (h0 : 17179869184 ≤ l) (h1 : l ≤ 2199023255552) (h : -(l * 4611686018427387904) ≤ s * 1099511627776 ∧ s * 1099511627776 ≤ l * 4611686018427387904) :
    ∃ v, fdiv false s l = (v, false) ∧ 2199023255552 * s - l ≤ 2 * l * v ∧ 2 * l * v ≤ 2199023255552 * s + l := by
  have e : fdiv false s l = (ratio3 s 1099511627776 l, false) := by
    have e : (false || !nums? [s, l]) = false := by simp [nums?, num_small (x := s) (by omega) (by omega), num_small (x := l) (by omega) (by omega)]
    unfold fdiv
    rw [e, cond_false]
    have e1 : iabs l = l := iabs_of_nonneg (by omega)
    have e2 : iabs 1099511627776 = 1099511627776 := rfl
    refine fratio_ok (by rw [e1]; omega) ?_
    rw [e1, e2]
    unfold iabs
    by_cases c : s < 0
    · rw [decide_eq_true c, cond_true]; omega
    · rw [decide_eq_false c, cond_false]; omega
  exact ⟨_, e, fdiv_spec (by omega) e⟩
/-- A step: less a product. -/
theorem step_gen {v a b : Int} {k : Nat} (hk : k < 6) (hv : -(340000000000000001 * k) - 170000000000000000 ≤ v ∧ v ≤ 340000000000000001 * k + 170000000000000000) (ha : -2199023255552 ≤ a ∧ a ≤ 2199023255552) (hb : -170000000000000000 ≤ b ∧ b ≤ 170000000000000000) :
    ∃ p, fmul false a b = (p, false) ∧ fsub false v p = (v - p, false) ∧ fadd false v p = (v + p, false) ∧ 2 * (a * b) - 1099511627776 ≤ 2199023255552 * p ∧ 2199023255552 * p ≤ 2 * (a * b) + 1099511627776 ∧ -340000000000000001 ≤ p ∧ p ≤ 340000000000000001 := by
  obtain ⟨p, ep, p1, p2⟩ := mul_gen ha hb
  obtain ⟨q1, q2⟩ := mul_bound ha hb
  exact ⟨p, ep, sub_gen (by omega) (by omega), add_gen (by omega) (by omega), p1, p2, by omega, by omega⟩
theorem less_gen {a b : Nat → Int} {s : Int} (hs : -170000000000000000 ≤ s ∧ s ≤ 170000000000000000) : ∀ {k : Nat}, k ≤ 6 → (∀ u, u < k → -2199023255552 ≤ a u ∧ a u ≤ 2199023255552) → (∀ u, u < k → -170000000000000000 ≤ b u ∧ b u ≤ 170000000000000000) →
    ∃ v, lessN opsF a b (s, false) k = (v, false) ∧ 2199023255552 * s - 2 * sm (fun u => a u * b u) k - 1099511627776 * k ≤ 2199023255552 * v ∧ 2199023255552 * v ≤ 2199023255552 * s - 2 * sm (fun u => a u * b u) k + 1099511627776 * k ∧
      -(340000000000000001 * k) - 170000000000000000 ≤ v ∧ v ≤ 340000000000000001 * k + 170000000000000000
  | 0, _, _, _ => ⟨s, rfl, by rw [sm]; omega, by rw [sm]; omega, by omega, by omega⟩
  | k + 1, hk, ha, hb => by
    obtain ⟨v, e, h1, h2, h3, h4⟩ := less_gen hs (k := k) (by omega) (fun u hu => ha u (by omega)) fun u hu => hb u (by omega)
    obtain ⟨p, ep, es, _, p1, p2, _, _⟩ := step_gen (k := k) (by omega) ⟨h3, h4⟩ (ha k (by omega)) (hb k (by omega))
    refine ⟨v - p, ?_, ?_, ?_, ?_, ?_⟩
    · show opsF.sub (opsF.mul (lessN opsF a b (s, false) k).2 (a k) (b k)).2 (lessN opsF a b (s, false) k).1 (opsF.mul (lessN opsF a b (s, false) k).2 (a k) (b k)).1 = _
      rw [e]
      show fsub (fmul false (a k) (b k)).2 v (fmul false (a k) (b k)).1 = _
      rw [ep]
      exact es
    all_goals first | rw [sm] | skip
    all_goals omega
theorem lessB_gen {L : Mx} {x : Nat → Int} {i : Nat} {s : Int} (hs : -170000000000000000 ≤ s ∧ s ≤ 170000000000000000) : ∀ {k : Nat}, k ≤ 6 → (∀ c, c < k → -2199023255552 ≤ L (i + 1 + c) i ∧ L (i + 1 + c) i ≤ 2199023255552) → (∀ c, c < k → -170000000000000000 ≤ x (i + 1 + c) ∧ x (i + 1 + c) ≤ 170000000000000000) →
    ∃ v, lessB opsF L x i (s, false) k = (v, false) ∧ 2199023255552 * s - 2 * sm (fun c => L (i + 1 + c) i * x (i + 1 + c)) k - 1099511627776 * k ≤ 2199023255552 * v ∧ 2199023255552 * v ≤ 2199023255552 * s - 2 * sm (fun c => L (i + 1 + c) i * x (i + 1 + c)) k + 1099511627776 * k ∧
      -(340000000000000001 * k) - 170000000000000000 ≤ v ∧ v ≤ 340000000000000001 * k + 170000000000000000
  | 0, _, _, _ => ⟨s, rfl, by rw [sm]; omega, by rw [sm]; omega, by omega, by omega⟩
  | k + 1, hk, ha, hb => by
    obtain ⟨v, e, h1, h2, h3, h4⟩ := lessB_gen hs (L := L) (x := x) (i := i) (k := k) (by omega) (fun u hu => ha u (by omega)) fun u hu => hb u (by omega)
    obtain ⟨p, ep, es, _, p1, p2, _, _⟩ := step_gen (k := k) (by omega) ⟨h3, h4⟩ (ha k (by omega)) (hb k (by omega))
    refine ⟨v - p, ?_, ?_, ?_, ?_, ?_⟩
    · show opsF.sub (opsF.mul (lessB opsF L x i (s, false) k).2 (L (i + 1 + k) i) (x (i + 1 + k))).2 (lessB opsF L x i (s, false) k).1 (opsF.mul (lessB opsF L x i (s, false) k).2 (L (i + 1 + k) i) (x (i + 1 + k))).1 = _
      rw [e]
      show fsub (fmul false (L (i + 1 + k) i) (x (i + 1 + k))).2 v (fmul false (L (i + 1 + k) i) (x (i + 1 + k))).1 = _
      rw [ep]
      exact es
    all_goals first | rw [sm] | skip
    all_goals omega
theorem sum_gen {a b : Nat → Int} : ∀ {k : Nat}, k ≤ 6 → (∀ u, u < k → -2199023255552 ≤ a u ∧ a u ≤ 2199023255552) → (∀ u, u < k → -170000000000000000 ≤ b u ∧ b u ≤ 170000000000000000) →
    ∃ v, sumN opsF a b false k = (v, false) ∧ 2 * sm (fun u => a u * b u) k - 1099511627776 * k ≤ 2199023255552 * v ∧ 2199023255552 * v ≤ 2 * sm (fun u => a u * b u) k + 1099511627776 * k ∧
      -(340000000000000001 * k) - 170000000000000000 ≤ v ∧ v ≤ 340000000000000001 * k + 170000000000000000
  | 0, _, _, _ => ⟨0, rfl, by rw [sm]; omega, by rw [sm]; omega, by omega, by omega⟩
  | k + 1, hk, ha, hb => by
    obtain ⟨v, e, h1, h2, h3, h4⟩ := sum_gen (k := k) (by omega) (fun u hu => ha u (by omega)) fun u hu => hb u (by omega)
    obtain ⟨p, ep, _, es, p1, p2, _, _⟩ := step_gen (k := k) (by omega) ⟨h3, h4⟩ (ha k (by omega)) (hb k (by omega))
    refine ⟨v + p, ?_, ?_, ?_, ?_, ?_⟩
    · show opsF.add (opsF.mul (sumN opsF a b false k).2 (a k) (b k)).2 (sumN opsF a b false k).1 (opsF.mul (sumN opsF a b false k).2 (a k) (b k)).1 = _
      rw [e]
      show fadd (fmul false (a k) (b k)).2 v (fmul false (a k) (b k)).1 = _
      rw [ep]
      exact es
    all_goals first | rw [sm] | skip
    all_goals omega
end Go.Ab
/- What is solved with the root of a heavy matrix: forward. -/
namespace Go.Ab
open Go Go.Proofs
/-- What is left of a row behind j numbers, 2^40 times. -/
def Rm (L : Mx) (b Y : Nat → Int) (j i : Nat) : Int := 1099511627776 * b i - sm (fun u => L i u * Y u) j
theorem Rm_succ (L : Mx) (b Y : Nat → Int) (j i : Nat) : Rm L b Y (j + 1) i = Rm L b Y j i - L i j * Y j := by unfold Rm; rw [sm]; omega
def FW (L : Mx) (b Y : Nat → Int) (j : Nat) : Prop := ∀ u, u < j → -4398046511104 ≤ L u u * Y u - Rm L b Y u u ∧ L u u * Y u - Rm L b Y u u ≤ 4398046511104
structure Lower (L : Mx) (n : Nat) : Prop where
  col : ∀ j, j < n → sm (fun k => if j + 1 ≤ k then ab (L k j) else 0) n ≤ L j j
  big : ∀ j, j < n → 17179869184 ≤ L j j
  small : ∀ j, j < n → L j j ≤ 2199023255552
  zero : ∀ r t, r < t → L r t = 0
theorem Part.lower {L m : Mx} {n : Nat} (hv : Hv m n) (hn : n ≤ 6) (p : Part L m n 0) : Lower L n := by
  refine ⟨fun j hj => ?_, fun j hj => (p.dg j hj).big, fun j hj => (p.dg j hj).small, fun r t h => p.zero r t (by omega)⟩
  have rel : ∀ u, u ≤ n → Rel2 L m n u := fun u hu => ⟨fun t ht => p.dg t (by omega), fun r' t h1 h2 h3 => p.off r' t h2 (by omega)⟩
  have hm : ∀ i j, i < n → j < n → m i j = m j i := fun a b ha hb => hv.sym a b ha hb
  exact col_sum hm hn hj (rel (j + 1) (by omega)) (dom_all hm hn (hv.dom0 (Nat.le_refl _) L) j (by omega) (rel j (by omega)))
theorem Lower.ent {L : Mx} {n : Nat} (h : Lower L n) {r u : Nat} (hr : r < n) (hu : u < n) : -2199023255552 ≤ L r u ∧ L r u ≤ 2199023255552 := by
  have s := h.small u hu
  have g := h.big u hu
  by_cases c : u < r
  · have := h.col u hu
    have := sm_term (n := n) (f := fun k => if u + 1 ≤ k then ab (L k u) else 0) (fun k _ => by
      by_cases h : u + 1 ≤ k
      · rw [if_pos h]; unfold ab; omega
      · rw [if_neg h]; omega) hr
    rw [if_pos (show u + 1 ≤ r by omega)] at this
    unfold ab at *
    omega
  · by_cases c' : u = r
    · subst c'; omega
    · rw [h.zero r u (by omega)]; omega
theorem norm_le {L : Mx} {b Y : Nat → Int} {n : Nat} (h : Lower L n) (hb : ∀ i, i < n → -1099511627776 ≤ b i ∧ b i ≤ 1099511627776) : ∀ j, j ≤ n → FW L b Y j →
    sm (fun i => if j ≤ i then ab (Rm L b Y j i) else 0) n ≤ 1208925819614629174706176 * n + 4398046511104 * j
  | 0, _, _ => by
    have := sm_le (n := n) (f := fun i => if 0 ≤ i then ab (Rm L b Y 0 i) else 0) (g := fun _ => 1208925819614629174706176) fun i hi => by
      rw [if_pos (Nat.zero_le _)]
      unfold Rm
      rw [sm]
      have := hb i hi
      unfold ab
      omega
    rw [sm_const] at this
    omega
  | j + 1, hj, fw => by
    have ih := norm_le h hb j (by omega) fun u hu => fw u (by omega)
    have f := fw j (by omega)
    have c := h.col j (by omega)
    have g := h.big j (by omega)
    have t1 : sm (fun i => if j + 1 ≤ i then ab (Rm L b Y (j + 1) i) else 0) n ≤ sm (fun i => (if j + 1 ≤ i then ab (Rm L b Y j i) else 0) + ab (Y j) * (if j + 1 ≤ i then ab (L i j) else 0)) n := by
      refine sm_le fun i _ => ?_
      by_cases c : j + 1 ≤ i
      · rw [if_pos c, if_pos c, if_pos c, Rm_succ, ← ab_mul, Int.mul_comm (Y j)]
        unfold ab
        omega
      · rw [if_neg c, if_neg c, if_neg c]
        omega
    rw [sm_add, sm_mul] at t1
    have t2 := sm_split (f := fun i => if j ≤ i then ab (Rm L b Y j i) else 0) (j := j) (n := n) (by omega)
    have t3 : sm (fun k => if k = j then 0 else if j ≤ k then ab (Rm L b Y j k) else 0) n = sm (fun i => if j + 1 ≤ i then ab (Rm L b Y j i) else 0) n := by
      refine sm_congr fun k _ => ?_
      by_cases h : k = j
      · rw [if_pos h, if_neg (by omega)]
      · rw [if_neg h]
        by_cases h' : j ≤ k
        · rw [if_pos h', if_pos (by omega)]
        · rw [if_neg h', if_neg (by omega)]
    rw [t3, if_pos (Nat.le_refl _)] at t2
    have t4 : ab (Y j) * sm (fun i => if j + 1 ≤ i then ab (L i j) else 0) n ≤ ab (Y j) * L j j := Int.mul_le_mul_of_nonneg_left c (by unfold ab; omega)
    have t5 : ab (Y j) * L j j = ab (L j j * Y j) := by rw [ab_mul, ab_of_nonneg (x := L j j) (by omega), Int.mul_comm]
    have t6 : ab (L j j * Y j) ≤ ab (Rm L b Y j j) + 4398046511104 := by unfold ab; omega
    omega
theorem y_bound {L : Mx} {b Y : Nat → Int} {n : Nat} (h : Lower L n) (hn : n ≤ 6) (hb : ∀ i, i < n → -1099511627776 ≤ b i ∧ b i ≤ 1099511627776) {j : Nat} (hj : j < n) (fw : FW L b Y (j + 1)) : ab (Y j) ≤ 422212465069984 := by
  have nm := norm_le h hb j (by omega) fun u hu => fw u (by omega)
  have f := fw j (by omega)
  have g := h.big j hj
  have tm := sm_term (n := n) (f := fun i => if j ≤ i then ab (Rm L b Y j i) else 0) (fun k _ => by
    by_cases h : j ≤ k
    · rw [if_pos h]; unfold ab; omega
    · rw [if_neg h]; omega) hj
  rw [if_pos (Nat.le_refl _)] at tm
  have t6 : ab (L j j * Y j) ≤ ab (Rm L b Y j j) + 4398046511104 := by unfold ab; omega
  rw [ab_mul, ab_of_nonneg (x := L j j) (by omega)] at t6
  have t7 : 17179869184 * ab (Y j) ≤ L j j * ab (Y j) := Int.mul_le_mul_of_nonneg_right g (by unfold ab; omega)
  omega
theorem setR_at (x : Nat → Int) (i : Nat) (v : Int) : setR x i v i = v := by unfold setR; simp
theorem setR_ne {x : Nat → Int} {i a : Nat} {v : Int} (h : a ≠ i) : setR x i v a = x a := by
  unfold setR
  have : Nat.beq a i = false := by
    cases hc : Nat.beq a i with
    | false => rfl
    | true => exact absurd (Nat.eq_of_beq_eq_true hc) h
  rw [this, cond_false]
theorem fwd_ok {L : Mx} {b : Nat → Int} {n : Nat} (h : Lower L n) (hn : n ≤ 6) (hb : ∀ i, i < n → -1099511627776 ≤ b i ∧ b i ≤ 1099511627776) : ∀ i, i ≤ n → ∃ Y, fwdN opsF L b false i = (Y, false) ∧ FW L b Y i
  | 0, _ => ⟨fun _ => 0, rfl, fun u hu => by omega⟩
  | i + 1, hi => by
    obtain ⟨Y, e, fw⟩ := fwd_ok h hn hb i (by omega)
    have yb : ∀ u, u < i → -422212465069984 ≤ Y u ∧ Y u ≤ 422212465069984 := fun u hu => by
      have := y_bound h hn hb (j := u) (by omega) fun t ht => fw t (by omega)
      unfold ab at this
      omega
    have b1 := hb i (by omega)
    have g := h.big i (by omega)
    have g' := h.small i (by omega)
    obtain ⟨s, es, s1, s2, _, _⟩ := less_gen (a := L i) (b := Y) (s := b i) (by omega) (k := i) (by omega) (fun u hu => h.ent (by omega) (by omega)) fun u hu => by have := yb u hu; omega
    have nm := norm_le h hb i (by omega) fw
    have tm := sm_term (n := n) (f := fun k => if i ≤ k then ab (Rm L b Y i k) else 0) (fun k _ => by
      by_cases h : i ≤ k
      · rw [if_pos h]; unfold ab; omega
      · rw [if_neg h]; omega) (show i < n by omega)
    rw [if_pos (Nat.le_refl _)] at tm
    have hr : Rm L b Y i i = 1099511627776 * b i - sm (fun u => L i u * Y u) i := rfl
    have sb : -7000000000000 ≤ s ∧ s ≤ 7000000000000 := by
      have := ab_spec (Rm L b Y i i)
      omega
    obtain ⟨v, ev, v1, v2⟩ := div_gen (s := s) (l := L i i) (by omega) g g' (by omega)
    refine ⟨setR Y i v, ?_, fun u hu => ?_⟩
    · have ea : opsF.add (fwdN opsF L b false i).2 (b i) 0 = (b i, false) := by
        rw [e]
        show fadd false (b i) 0 = _
        rw [add_ok (by omega) (by omega), Int.add_zero]
      show (setR (fwdN opsF L b false i).1 i (opsF.div (lessN opsF (L i) (fwdN opsF L b false i).1 (opsF.add (fwdN opsF L b false i).2 (b i) 0) i).2 (lessN opsF (L i) (fwdN opsF L b false i).1 (opsF.add (fwdN opsF L b false i).2 (b i) 0) i).1 (L i i)).1,
        (opsF.div (lessN opsF (L i) (fwdN opsF L b false i).1 (opsF.add (fwdN opsF L b false i).2 (b i) 0) i).2 (lessN opsF (L i) (fwdN opsF L b false i).1 (opsF.add (fwdN opsF L b false i).2 (b i) 0) i).1 (L i i)).2) = _
      rw [ea, e]
      dsimp only
      rw [es]
      show (setR Y i (fdiv false s (L i i)).1, (fdiv false s (L i i)).2) = _
      rw [ev]
    · have cg : ∀ t, t ≤ i → Rm L b (setR Y i v) t u = Rm L b Y t u := fun t ht => by
        unfold Rm
        rw [sm_congr (f := fun k => L u k * setR Y i v k) (g := fun k => L u k * Y k) fun k hk => by rw [setR_ne (by omega)]]
      by_cases c : u = i
      · subst c
        rw [cg u (Nat.le_refl _), setR_at, hr]
        have c : 2 * L u u * v = 2 * (L u u * v) := by grind
        omega
      · rw [cg u (by omega), setR_ne c]
        exact fw u (by omega)
end Go.Ab
/- What is solved with the root of a heavy matrix: backward. -/
namespace Go.Ab
open Go Go.Proofs
theorem sm_from {f : Nat → Int} {i : Nat} (hz : ∀ k, k < i → f k = 0) : ∀ t : Nat, sm f (i + 1 + t) = f i + sm (fun c => f (i + 1 + c)) t
  | 0 => by
    show sm f i + f i = f i + 0
    rw [sm_zero hz]; omega
  | t + 1 => by
    show sm f (i + 1 + t) + f (i + 1 + t) = f i + (sm (fun c => f (i + 1 + c)) t + f (i + 1 + t))
    rw [sm_from hz t]; omega
theorem ab_sm (f : Nat → Int) : ∀ n, ab (sm f n) ≤ sm (fun k => ab (f k)) n
  | 0 => Int.le_refl _
  | n + 1 => by
    have := ab_sm f n
    rw [sm, sm]
    have := ab_spec (sm f n)
    have := ab_spec (f n)
    have := ab_spec (sm f n + f n)
    omega
def BW (L : Mx) (n : Nat) (Y x : Nat → Int) (u : Nat) : Prop := -4398046511104 ≤ sm (fun k => L k u * x k) n - 1099511627776 * Y u ∧ sm (fun k => L k u * x k) n - 1099511627776 * Y u ≤ 4398046511104
theorem bwd_ok {L : Mx} {Y : Nat → Int} {n : Nat} (h : Lower L n) (hn : n ≤ 6) (hY : ∀ u, u < n → ab (Y u) ≤ 422212465069984) : ∀ t : Nat, t ≤ n → ∃ x, bwdN opsF L n (Y, false) t = (x, false) ∧ (∀ k, k < n - t → x k = Y k) ∧
    (∀ k, n - t ≤ k → k < n → ab (x k) ≤ 27021597764480000 * t) ∧ ∀ u, n - t ≤ u → u < n → BW L n Y x u
  | 0, _ => ⟨Y, rfl, fun _ _ => rfl, fun k h1 h2 => by omega, fun u h1 h2 => by omega⟩
  | t + 1, ht => by
    obtain ⟨x, e, h1, h2, h3⟩ := bwd_ok h hn hY t (by omega)
    obtain ⟨i, hi⟩ : ∃ i, i = n - 1 - t := ⟨_, rfl⟩
    have hni : n = i + 1 + t := by omega
    have g := h.big i (by omega)
    have g' := h.small i (by omega)
    have col := h.col i (by omega)
    have hyi := hY i (by omega)
    have hxi : x i = Y i := h1 i (by omega)
    have xb : ∀ c, c < t → ab (x (i + 1 + c)) ≤ 27021597764480000 * t := fun c hc => h2 (i + 1 + c) (by omega) (by omega)
    obtain ⟨s, es, s1, s2, s3, s4⟩ := lessB_gen (L := L) (x := x) (i := i) (s := x i) (by rw [hxi]; unfold ab at hyi; omega) (k := t) (by omega) (fun c hc => h.ent (by omega) (by omega)) fun c hc => by have := xb c hc; unfold ab at this; omega
    have cs : ab (sm (fun c => L (i + 1 + c) i * x (i + 1 + c)) t) ≤ L i i * (27021597764480000 * t) := by
      refine Int.le_trans (ab_sm _ t) ?_
      have t1 : sm (fun c => ab (L (i + 1 + c) i * x (i + 1 + c))) t ≤ sm (fun c => (27021597764480000 * (t : Int)) * ab (L (i + 1 + c) i)) t := sm_le fun c hc => by
        rw [ab_mul, Int.mul_comm]
        exact Int.mul_le_mul_of_nonneg_right (xb c hc) (by unfold ab; omega)
      rw [sm_mul] at t1
      have t2 : sm (fun c => ab (L (i + 1 + c) i)) t = sm (fun k => if i + 1 ≤ k then ab (L k i) else 0) n := by
        rw [hni, sm_from (f := fun k => if i + 1 ≤ k then ab (L k i) else 0) (i := i) (fun k hk => by rw [if_neg (by omega)]) t, if_neg (by omega), Int.zero_add]
        exact sm_congr fun c _ => by rw [if_pos (by omega)]
      rw [t2] at t1
      have t3 : (27021597764480000 * (t : Int)) * sm (fun k => if i + 1 ≤ k then ab (L k i) else 0) n ≤ (27021597764480000 * (t : Int)) * L i i := Int.mul_le_mul_of_nonneg_left col (by omega)
      rw [Int.mul_comm (L i i)]
      omega
    have t5 : (t : Int) ≤ 5 := by omega
    have cs2 : L i i * (27021597764480000 * t) ≤ L i i * 135107988822400000 := Int.mul_le_mul_of_nonneg_left (by omega) (by omega)
    have cs1 := ab_spec (sm (fun c => L (i + 1 + c) i * x (i + 1 + c)) t)
    have hy1 := ab_spec (Y i)
    rw [hxi] at s1 s2
    obtain ⟨v, ev, v1, v2⟩ := div_gen (s := s) (l := L i i) (by omega) g g' (by omega)
    have vb : ab v ≤ 27021597764480000 * ((t + 1 : Nat) : Int) := by
      have q : L i i * ab v ≤ L i i * (27021597764480000 * ((t + 1 : Nat) : Int)) := by
        have e1 : 2 * L i i * v = 2 * (L i i * v) := by grind
        have e2 : ab (L i i * v) = L i i * ab v := by rw [ab_mul, ab_of_nonneg (x := L i i) (by omega)]
        have e3 := ab_spec (L i i * v)
        have e4 : L i i * (27021597764480000 * ((t + 1 : Nat) : Int)) = L i i * (27021597764480000 * t) + L i i * 27021597764480000 := by
          rw [← Int.mul_add]
          congr 1
        omega
      exact Int.le_of_mul_le_mul_left q (by omega)
    refine ⟨setR x i v, ?_, fun k hk => ?_, fun k hk1 hk2 => ?_, fun u hu1 hu2 => ?_⟩
    · show (setR (bwdN opsF L n (Y, false) t).1 (n - 1 - t) (opsF.div (lessB opsF L (bwdN opsF L n (Y, false) t).1 (n - 1 - t) ((bwdN opsF L n (Y, false) t).1 (n - 1 - t), (bwdN opsF L n (Y, false) t).2) t).2 (lessB opsF L (bwdN opsF L n (Y, false) t).1 (n - 1 - t) ((bwdN opsF L n (Y, false) t).1 (n - 1 - t), (bwdN opsF L n (Y, false) t).2) t).1 (L (n - 1 - t) (n - 1 - t))).1,
        (opsF.div (lessB opsF L (bwdN opsF L n (Y, false) t).1 (n - 1 - t) ((bwdN opsF L n (Y, false) t).1 (n - 1 - t), (bwdN opsF L n (Y, false) t).2) t).2 (lessB opsF L (bwdN opsF L n (Y, false) t).1 (n - 1 - t) ((bwdN opsF L n (Y, false) t).1 (n - 1 - t), (bwdN opsF L n (Y, false) t).2) t).1 (L (n - 1 - t) (n - 1 - t))).2) = _
      rw [← hi, e]
      dsimp only
      rw [es]
      show (setR x i (fdiv false s (L i i)).1, (fdiv false s (L i i)).2) = _
      rw [ev]
    · rw [setR_ne (by omega)]
      exact h1 k (by omega)
    · by_cases c : k = i
      · subst c
        rw [setR_at]
        exact vb
      · rw [setR_ne c]
        have := h2 k (by omega) hk2
        omega
    · by_cases c : u = i
      · subst c
        have e0 : sm (fun k => L k u * setR x u v k) n = L u u * v + sm (fun c => L (u + 1 + c) u * x (u + 1 + c)) t := by
          rw [hni, sm_from (f := fun k => L k u * setR x u v k) (i := u) (fun k hk => by rw [h.zero k u hk, Int.zero_mul]) t, setR_at]
          congr 1
          exact sm_congr fun c _ => by rw [setR_ne (by omega)]
        unfold BW
        rw [e0]
        have e1 : 2 * L u u * v = 2 * (L u u * v) := by grind
        omega
      · have := h3 u (by omega) hu2
        unfold BW at this ⊢
        rw [sm_congr (f := fun k => L k u * setR x i v k) (g := fun k => L k u * x k) fun k hk => by
          by_cases c' : k = i
          · subst c'
            rw [h.zero k u (by omega), Int.zero_mul, Int.zero_mul]
          · rw [setR_ne c']]
        exact this
end Go.Ab
/- What is solved, put in again, is what was asked. -/
namespace Go.Ab
open Go Go.Proofs
theorem sm_swap (f : Nat → Nat → Int) (n : Nat) : ∀ p, sm (fun k => sm (fun u => f u k) n) p = sm (fun u => sm (fun k => f u k) p) n
  | 0 => by
    show (0 : Int) = _
    rw [sm_zero fun k _ => by rw [sm]]
  | p + 1 => by
    show sm (fun k => sm (fun u => f u k) n) p + sm (fun u => f u p) n = sm (fun u => sm (fun k => f u k) p + f u p) n
    rw [sm_add, sm_swap f n p]
theorem app_ok {m : Mx} {x : Nat → Int} {n : Nat} (hn : n ≤ 6) (hm : ∀ i j, i < n → j < n → -1099511627776 ≤ m i j ∧ m i j ≤ 1099511627776) (hx : ∀ k, k < n → ab (x k) ≤ 162129586586880000) : ∀ i, i ≤ n → ∃ y, appN opsF m x n false i = (y, false) ∧
    ∀ u, u < i → 2 * sm (fun k => m u k * x k) n - 1099511627776 * n ≤ 2199023255552 * y u ∧ 2199023255552 * y u ≤ 2 * sm (fun k => m u k * x k) n + 1099511627776 * n
  | 0, _ => ⟨fun _ => 0, rfl, fun u hu => by omega⟩
  | i + 1, hi => by
    obtain ⟨y, e, h⟩ := app_ok hn hm hx i (by omega)
    obtain ⟨v, ev, v1, v2, _, _⟩ := sum_gen (a := m i) (b := x) hn (fun u hu => by have := hm i u (by omega) hu; omega) fun u hu => by have := hx u hu; unfold ab at this; omega
    refine ⟨setR y i v, ?_, fun u hu => ?_⟩
    · show (setR (appN opsF m x n false i).1 i (sumN opsF (m i) x (appN opsF m x n false i).2 n).1, (sumN opsF (m i) x (appN opsF m x n false i).2 n).2) = _
      rw [e]
      dsimp only
      rw [ev]
    · by_cases c : u = i
      · subst c
        rw [setR_at]
        exact ⟨v1, v2⟩
      · rw [setR_ne c]
        exact h u (by omega)
theorem ab_sub (a b : Int) : ab (a - b) ≤ ab a + ab b := by unfold ab; omega
theorem prod_bd {f g : Nat → Int} {n : Nat} {F G : Int} (hG : 0 ≤ G) (hf : ∀ k, k < n → ab (f k) ≤ F) (hg : ∀ k, k < n → ab (g k) ≤ G) : ab (sm (fun k => f k * g k) n) ≤ n * (F * G) := by
  refine Int.le_trans (ab_sm _ n) ?_
  rw [← sm_const]
  refine sm_le fun k hk => ?_
  rw [ab_mul]
  have h1 : ab (f k) * ab (g k) ≤ ab (f k) * G := Int.mul_le_mul_of_nonneg_left (hg k hk) (by unfold ab; omega)
  have h2 : ab (f k) * G ≤ F * G := Int.mul_le_mul_of_nonneg_right (hf k hk) hG
  omega
theorem sm_sub (f g : Nat → Int) : ∀ n, sm (fun k => f k - g k) n = sm f n - sm g n
  | 0 => rfl
  | n + 1 => by rw [sm, sm, sm, sm_sub f g n]; omega
/-- The residue, 2^80 times. -/
theorem residue {L m : Mx} {b Y x : Nat → Int} {n : Nat} (hn : n ≤ 6) (h : Lower L n) (hE : ∀ i k, i < n → k < n → -7696581394432 ≤ sm (fun u => L i u * L k u) n - 1099511627776 * m i k ∧ sm (fun u => L i u * L k u) n - 1099511627776 * m i k ≤ 7696581394432)
    (fw : FW L b Y n) (bw : ∀ u, u < n → BW L n Y x u) (hx : ∀ k, k < n → ab (x k) ≤ 162129586586880000) {i : Nat} (hi : i < n) :
    ab (1099511627776 * sm (fun k => m i k * x k) n - 1208925819614629174706176 * b i) ≤ 7600000000000000000000000000000 := by
  have e1 : sm (fun k => sm (fun u => L i u * (L k u * x k)) n) n = sm (fun u => L i u * sm (fun k => L k u * x k) n) n := by
    rw [sm_swap (fun u k => L i u * (L k u * x k)) n n]
    exact sm_congr fun u _ => sm_mul (L i u) (fun k => L k u * x k) n
  have e2 : sm (fun k => sm (fun u => L i u * (L k u * x k)) n) n = sm (fun k => (sm (fun u => L i u * L k u) n - 1099511627776 * m i k) * x k) n + 1099511627776 * sm (fun k => m i k * x k) n := by
    rw [← sm_mul, ← sm_add]
    refine sm_congr fun k _ => ?_
    have : sm (fun u => L i u * (L k u * x k)) n = x k * sm (fun u => L i u * L k u) n := by
      rw [← sm_mul]
      exact sm_congr fun u _ => by grind
    rw [this]
    grind
  have e3 : sm (fun u => L i u * sm (fun k => L k u * x k) n) n = sm (fun u => L i u * (sm (fun k => L k u * x k) n - 1099511627776 * Y u)) n + 1099511627776 * sm (fun u => L i u * Y u) n := by
    rw [← sm_mul, ← sm_add]
    exact sm_congr fun u _ => by grind
  have e4 : sm (fun u => L i u * Y u) n = sm (fun u => L i u * Y u) i + L i i * Y i := sm_cut hi fun u h1 _ => by rw [h.zero i u h1, Int.zero_mul]
  have f1 := fw i hi
  have hr : Rm L b Y i i = 1099511627776 * b i - sm (fun u => L i u * Y u) i := rfl
  have p1 := prod_bd (f := fun k => sm (fun u => L i u * L k u) n - 1099511627776 * m i k) (g := x) (n := n) (F := 7696581394432) (G := 162129586586880000) (by omega) (fun k hk => by have := hE i k hi hk; unfold ab; omega) hx
  have p2 := prod_bd (f := L i) (g := fun u => sm (fun k => L k u * x k) n - 1099511627776 * Y u) (n := n) (F := 2199023255552) (G := 4398046511104) (by omega) (fun k hk => by have := h.ent hi hk; unfold ab; omega) (fun u hu => by
    have := bw u hu
    unfold BW at this
    have := ab_spec (sm (fun k => L k u * x k) n - 1099511627776 * Y u)
    omega)
  have q1 := ab_spec (sm (fun k => (sm (fun u => L i u * L k u) n - 1099511627776 * m i k) * x k) n)
  have q2 := ab_spec (sm (fun u => L i u * (sm (fun k => L k u * x k) n - 1099511627776 * Y u)) n)
  have q3 := ab_spec (1099511627776 * sm (fun k => m i k * x k) n - 1208925819614629174706176 * b i)
  omega
theorem matSolved {m : M6} {b : R6} {n : Nat} (hv : Hv m.at n) (h1 : 1 ≤ n) (hn : n ≤ 6) (hb : ∀ i, i < n → -1099511627776 ≤ b.at i ∧ b.at i ≤ 1099511627776) :
    ∃ x y, matSolve opsF (matRootN opsF false (m, n, ())).2 ((matRootN opsF false (m, n, ())).1, b, n, ()) = (x, false) ∧ matApply opsF false (m, x, n, ()) = (y, false) ∧ ∀ i, i < n → -16777216 ≤ y.at i - b.at i ∧ y.at i - b.at i ≤ 16777216 := by
  obtain ⟨L, e, p⟩ := matRoot_heavy hv h1 hn
  rw [e]
  have at' : ∀ r u, r < n → u < n → (M6.of L).at r u = L r u := fun r u hr hu => M6.of_at L (by omega) (by omega)
  have low := p.lower hv hn
  have zero : ∀ r t, r < t → (M6.of L).at r t = 0 := by
    intro r t h
    by_cases h6 : t < 6
    · rw [M6.of_at L (by omega) h6]
      exact p.zero r t (by omega)
    · unfold M6.at R6.at
      split <;> first | omega | rfl
  have low' : Lower (M6.of L).at n := by
    refine ⟨fun j hj => ?_, fun j hj => by rw [at' j j hj hj]; exact low.big j hj, fun j hj => by rw [at' j j hj hj]; exact low.small j hj, zero⟩
    rw [at' j j hj hj, sm_congr (f := fun k => if j + 1 ≤ k then ab ((M6.of L).at k j) else 0) (g := fun k => if j + 1 ≤ k then ab (L k j) else 0) fun k hk => by rw [at' k j hk hj]]
    exact low.col j hj
  obtain ⟨Y, eY, fw⟩ := fwd_ok (b := b.at) low' hn hb n (Nat.le_refl _)
  obtain ⟨x, ex, _, xb, bw⟩ := bwd_ok (Y := Y) low' hn (fun u hu => y_bound low' hn hb hu fun t ht => fw t (by omega)) n (Nat.le_refl _)
  have xb' : ∀ k, k < n → ab ((R6.of x).at k) ≤ 162129586586880000 := fun k hk => by
    rw [R6.of_at x (by omega)]
    have := xb k (by omega) hk
    omega
  obtain ⟨y, ey, h⟩ := app_ok (m := m.at) (x := (R6.of x).at) hn hv.rng xb' n (Nat.le_refl _)
  refine ⟨R6.of x, R6.of y, ?_, ?_, fun i hi => ?_⟩
  · unfold matSolve
    dsimp only
    rw [byN_ok _ _ _ (okN_iff.2 (by omega)), cond_false, Int.toNat_natCast]
    unfold solve0
    rw [eY, ex]
    rfl
  · unfold matApply
    dsimp only
    rw [byN_ok _ _ _ (okN_iff.2 (by omega)), cond_false, Int.toNat_natCast, ey]
    rfl
  · rw [R6.of_at y (by omega)]
    have a := h i hi
    have bw' : ∀ u, u < n → BW (M6.of L).at n Y (R6.of x).at u := fun u hu => by
      have := bw u (by omega) hu
      unfold BW at this ⊢
      rw [sm_congr (f := fun k => (M6.of L).at k u * (R6.of x).at k) (g := fun k => (M6.of L).at k u * x k) fun k hk => by rw [R6.of_at x (by omega)]]
      exact this
    have r := residue hn low' (m := m.at) (fun i k hi hk => by
      rw [sm_congr (f := fun u => (M6.of L).at i u * (M6.of L).at k u) (g := fun u => L i u * L k u) fun u hu => by rw [at' i u hi hu, at' k u hk hu]]
      exact back_all hv p hi hk) fw bw' xb' hi
    have := ab_spec (1099511627776 * sm (fun k => m.at i k * (R6.of x).at k) n - 1208925819614629174706176 * b.at i)
    omega
end Go.Ab
