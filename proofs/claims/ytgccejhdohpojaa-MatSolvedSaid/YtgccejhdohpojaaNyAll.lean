/- A part of the proofs: lemmas, no statement of their own; no condition. -/
import Derived.Test.YtgccejhdohpojaaMtH
import Derived.Test.YtgccejhdohpojaaNvAll
/- Matrices that are heavy on the diagonal: what is left of them stays so. -/
namespace Go.Ab
open Go Go.Proofs
def sm (f : Nat → Int) : Nat → Int
  | 0 => 0
  | k + 1 => sm f k + f k
theorem sm_congr {f g : Nat → Int} : ∀ {n : Nat}, (∀ k, k < n → f k = g k) → sm f n = sm g n
  | 0, _ => rfl
  | n + 1, h => by rw [sm, sm, h n (by omega), sm_congr (n := n) fun k hk => h k (by omega)]
theorem sm_le {f g : Nat → Int} : ∀ {n : Nat}, (∀ k, k < n → f k ≤ g k) → sm f n ≤ sm g n
  | 0, _ => Int.le_refl _
  | n + 1, h => by
    have h1 := h n (by omega)
    have h2 := sm_le (n := n) (f := f) (g := g) fun k hk => h k (by omega)
    rw [sm, sm]
    omega
theorem sm_add (f g : Nat → Int) : ∀ n, sm (fun k => f k + g k) n = sm f n + sm g n
  | 0 => rfl
  | n + 1 => by rw [sm, sm, sm, sm_add f g n]; omega
theorem sm_mul (c : Int) (f : Nat → Int) : ∀ n, sm (fun k => c * f k) n = c * sm f n
  | 0 => by rw [sm, sm, Int.mul_zero]
  | n + 1 => by rw [sm, sm, sm_mul c f n, Int.mul_add]
theorem sm_const (c : Int) : ∀ n : Nat, sm (fun _ => c) n = n * c
  | 0 => by rw [sm]; simp
  | n + 1 => by rw [sm, sm_const c n]; grind
theorem sm_zero {f : Nat → Int} {n : Nat} (h : ∀ k, k < n → f k = 0) : sm f n = 0 := by
  have := sm_const 0 n
  rw [sm_congr (g := fun _ => 0) h, this, Int.mul_zero]
theorem sm_split {f : Nat → Int} {j : Nat} : ∀ {n : Nat}, j < n → sm f n = f j + sm (fun k => if k = j then 0 else f k) n
  | 0, h => by omega
  | n + 1, h => by
    rw [sm, sm]
    by_cases hj : n = j
    · subst hj
      rw [if_pos rfl]
      have : sm (fun k => if k = n then 0 else f k) n = sm f n := sm_congr fun k hk => by
        have : ¬ k = n := by omega
        rw [if_neg this]
      rw [this]
      omega
    · rw [if_neg hj, sm_split (f := f) (n := n) (j := j) (by omega)]
      omega
def ab (x : Int) : Int := (x.natAbs : Int)
theorem ab_mul (x y : Int) : ab (x * y) = ab x * ab y := by unfold ab; rw [Int.natAbs_mul]; rfl
theorem ab_spec (x : Int) : (0 ≤ x ∧ ab x = x) ∨ (x < 0 ∧ ab x = -x) := by unfold ab; omega
theorem ab_of_nonneg {x : Int} (h : 0 ≤ x) : ab x = x := by unfold ab; omega
theorem ab_sq (x : Int) : ab x * ab x = x * x := by
  rcases ab_spec x with ⟨_, h⟩ | ⟨_, h⟩ <;> rw [h]
  rw [Int.neg_mul_neg]
def One' : Int := 1099511627776
/-- What is left of a number of a matrix behind t columns, 2^40 times. -/
def Am (L m : Mx) (t r k : Nat) : Int := 1099511627776 * m r k - sm (fun u => L r u * L k u) t
theorem Am_succ (L m : Mx) (t r k : Nat) : Am L m (t + 1) r k = Am L m t r k - L r t * L k t := by unfold Am; rw [sm]; omega
theorem Am_sym {L m : Mx} {N : Nat} (hm : ∀ i j, i < N → j < N → m i j = m j i) (t : Nat) {r k : Nat} (hr : r < N) (hk : k < N) : Am L m t r k = Am L m t k r := by
  unfold Am
  rw [hm r k hr hk, sm_congr (f := fun u => L r u * L k u) (g := fun u => L k u * L r u) fun u _ => Int.mul_comm _ _]
structure Dg (L m : Mx) (t : Nat) : Prop where
  lo : -7696581394432 ≤ L t t * L t t - Am L m t t t
  hi : L t t * L t t - Am L m t t t ≤ 7696581394432
  big : 17179869184 ≤ L t t
  small : L t t ≤ 2199023255552
structure OffD (L m : Mx) (r t : Nat) : Prop where
  lo : -4398046511104 ≤ L r t * L t t - Am L m t r t
  hi : L r t * L t t - Am L m t r t ≤ 4398046511104
structure Rel2 (L m : Mx) (N j : Nat) : Prop where
  dg : ∀ t, t < j → Dg L m t
  off : ∀ r t, t < j → t < r → r < N → OffD L m r t
def Dom (L m : Mx) (N j : Nat) : Prop := ∀ r, j ≤ r → r < N →
  sm (fun k => if j ≤ k ∧ k ≠ r then ab (Am L m j r k) else 0) N + (1180591620717411303424 - 4398046511104 * j) ≤ Am L m j r r
theorem col_sum {L m : Mx} {N j : Nat} (hm : ∀ i j, i < N → j < N → m i j = m j i) (hN : N ≤ 6) (hj : j < N) (hr : Rel2 L m N (j + 1)) (hd : Dom L m N j) :
    sm (fun k => if j + 1 ≤ k then ab (L k j) else 0) N ≤ L j j := by
  have g := hr.dg j (by omega)
  have d := hd j (Nat.le_refl _) hj
  have e : L j j * sm (fun k => if j + 1 ≤ k then ab (L k j) else 0) N ≤ L j j * L j j := by
    rw [← sm_mul]
    have h1 : sm (fun k => L j j * if j + 1 ≤ k then ab (L k j) else 0) N ≤ sm (fun k => (if j ≤ k ∧ k ≠ j then ab (Am L m j j k) else 0) + 4398046511104) N := by
      refine sm_le fun k hk => ?_
      by_cases h : j + 1 ≤ k
      · rw [if_pos h, if_pos (by omega)]
        have o := hr.off k j (by omega) h hk
        have e1 : L j j * ab (L k j) = ab (L k j * L j j) := by rw [ab_mul, ab_of_nonneg (x := L j j) (by have := g.big; omega), Int.mul_comm]
        rw [e1, Am_sym hm j hj hk]
        have := o.lo
        have := o.hi
        unfold ab
        omega
      · rw [if_neg h, if_neg (by omega)]
        omega
    rw [sm_add, sm_const] at h1
    have := g.lo
    have := g.hi
    omega
  exact Int.le_of_mul_le_mul_left e (by have := g.big; omega)
theorem dom_step {L m : Mx} {N j : Nat} (hm : ∀ i j, i < N → j < N → m i j = m j i) (hN : N ≤ 6) (hj : j < N) (hr : Rel2 L m N (j + 1)) (hd : Dom L m N j) : Dom L m N (j + 1) := by
  intro r h1 h2
  have S := col_sum hm hN hj hr hd
  have g := hr.dg j (by omega)
  have d := hd r (by omega) h2
  have o := hr.off r j (by omega) (by omega) h2
  have t1 : sm (fun k => if j + 1 ≤ k ∧ k ≠ r then ab (Am L m (j + 1) r k) else 0) N ≤
      sm (fun k => (if j + 1 ≤ k ∧ k ≠ r then ab (Am L m j r k) else 0) + ab (L r j) * (if j + 1 ≤ k ∧ k ≠ r then ab (L k j) else 0)) N := by
    refine sm_le fun k hk => ?_
    by_cases h : j + 1 ≤ k ∧ k ≠ r
    · rw [if_pos h, if_pos h, if_pos h, Am_succ, ← ab_mul]
      unfold ab
      omega
    · rw [if_neg h, if_neg h, if_neg h]
      omega
  rw [sm_add, sm_mul] at t1
  have t2 := sm_split (f := fun k => if j ≤ k ∧ k ≠ r then ab (Am L m j r k) else 0) (j := j) hj
  have t3 : sm (fun k => if k = j then 0 else if j ≤ k ∧ k ≠ r then ab (Am L m j r k) else 0) N = sm (fun k => if j + 1 ≤ k ∧ k ≠ r then ab (Am L m j r k) else 0) N := by
    refine sm_congr fun k _ => ?_
    by_cases h : k = j
    · rw [if_pos h, if_neg (by omega)]
    · rw [if_neg h]
      by_cases h' : j ≤ k ∧ k ≠ r
      · rw [if_pos h', if_pos (by omega)]
      · rw [if_neg h', if_neg (by omega)]
  have t4 := sm_split (f := fun k => if j + 1 ≤ k then ab (L k j) else 0) (j := r) h2
  have t5 : sm (fun k => if k = r then 0 else if j + 1 ≤ k then ab (L k j) else 0) N = sm (fun k => if j + 1 ≤ k ∧ k ≠ r then ab (L k j) else 0) N := by
    refine sm_congr fun k _ => ?_
    by_cases h : k = r
    · rw [if_pos h, if_neg (by omega)]
    · rw [if_neg h]
      by_cases h' : j + 1 ≤ k
      · rw [if_pos h', if_pos (by omega)]
      · rw [if_neg h', if_neg (by omega)]
  rw [t3] at t2
  rw [t5] at t4
  rw [if_pos (by omega)] at t2 t4
  generalize sm (fun k => if j + 1 ≤ k ∧ k ≠ r then ab (L k j) else 0) N = V at *
  generalize sm (fun k => if j + 1 ≤ k ∧ k ≠ r then ab (Am L m j r k) else 0) N = U at *
  have t6 : ab (L r j) * V = ab (L r j) * sm (fun k => if j + 1 ≤ k then ab (L k j) else 0) N - L r j * L r j := by
    rw [t4, ← ab_sq (L r j)]
    grind
  have t7 : ab (L r j) * sm (fun k => if j + 1 ≤ k then ab (L k j) else 0) N ≤ ab (L r j) * L j j := Int.mul_le_mul_of_nonneg_left S (by unfold ab; omega)
  have t8 : ab (L r j) * L j j = ab (L r j * L j j) := by rw [ab_mul, ab_of_nonneg (x := L j j) (by have := g.big; omega)]
  have t9 : ab (L r j * L j j) ≤ ab (Am L m j r j) + 4398046511104 := by
    have := o.lo
    have := o.hi
    unfold ab
    omega
  rw [Am_succ L m j r r]
  omega
end Go.Ab
/- Roots of matrices that are heavy on the diagonal: they are there, and their squares are the matrix. -/
namespace Go.Ab
open Go Go.Proofs
theorem sm_term {f : Nat → Int} {n : Nat} (h : ∀ k, k < n → 0 ≤ f k) {j : Nat} (hj : j < n) : f j ≤ sm f n := by
  rw [sm_split hj]
  have := sm_le (n := n) (f := fun _ => 0) (g := fun k => if k = j then 0 else f k) fun k hk => by
    by_cases e : k = j
    · rw [if_pos e]; omega
    · rw [if_neg e]; exact h k hk
  rw [sm_const, Int.mul_zero] at this
  omega
theorem Rel2.mono {L m : Mx} {N j t : Nat} (h : Rel2 L m N j) (ht : t ≤ j) : Rel2 L m N t :=
  ⟨fun u hu => h.dg u (by omega), fun r u hu => h.off r u (by omega)⟩
theorem dom_all {L m : Mx} {N : Nat} (hm : ∀ i j, i < N → j < N → m i j = m j i) (hN : N ≤ 6) (h0 : Dom L m N 0) : ∀ j, j ≤ N → Rel2 L m N j → Dom L m N j
  | 0, _, _ => h0
  | j + 1, hj, hr => dom_step hm hN (by omega) hr (dom_all hm hN h0 j (by omega) (hr.mono (by omega)))
theorem dom_term {L m : Mx} {N j : Nat} (hd : Dom L m N j) {r k : Nat} (h1 : j ≤ r) (h2 : r < N) (h3 : j ≤ k) (h4 : k < N) (h5 : k ≠ r) : ab (Am L m j r k) + (1180591620717411303424 - 4398046511104 * j) ≤ Am L m j r r := by
  have d := hd r h1 h2
  have := sm_term (n := N) (f := fun k => if j ≤ k ∧ k ≠ r then ab (Am L m j r k) else 0) (fun k _ => by
    by_cases h : j ≤ k ∧ k ≠ r
    · rw [if_pos h]; unfold ab; omega
    · rw [if_neg h]; omega) h4
  rw [if_pos ⟨h3, h5⟩] at this
  omega
theorem sm_nonneg {f : Nat → Int} {n : Nat} (h : ∀ k, k < n → 0 ≤ f k) : 0 ≤ sm f n := by
  have := sm_le (n := n) (f := fun _ => 0) (g := f) h
  rw [sm_const, Int.mul_zero] at this
  exact this
theorem dom_diag {L m : Mx} {N j : Nat} (hd : Dom L m N j) {r : Nat} (h1 : j ≤ r) (h2 : r < N) : 1180591620717411303424 - 4398046511104 * j ≤ Am L m j r r := by
  have d := hd r h1 h2
  have := sm_nonneg (n := N) (f := fun k => if j ≤ k ∧ k ≠ r then ab (Am L m j r k) else 0) fun k _ => by
    by_cases h : j ≤ k ∧ k ≠ r
    · rw [if_pos h]; unfold ab; omega
    · rw [if_neg h]; omega
  omega
theorem Am_le {L m : Mx} (t r : Nat) : Am L m t r r ≤ 1099511627776 * m r r := by
  unfold Am
  have := sm_nonneg (n := t) (f := fun u => L r u * L r u) fun u _ => sq_nonneg _
  omega
theorem ent_bound {L m : Mx} {N t r : Nat} (hm : ∀ i j, i < N → j < N → m i j = m j i) (hN : N ≤ 6) (h0 : Dom L m N 0) (hr : Rel2 L m N (t + 1)) (h1 : t < r) (h2 : r < N) : ab (L r t) ≤ L t t := by
  have := col_sum hm hN (by omega) hr (dom_all hm hN h0 t (by omega) (hr.mono (by omega)))
  have := sm_term (n := N) (f := fun k => if t + 1 ≤ k then ab (L k t) else 0) (fun k _ => by
    by_cases h : t + 1 ≤ k
    · rw [if_pos h]; unfold ab; omega
    · rw [if_neg h]; omega) h2
  rw [if_pos (show t + 1 ≤ r by omega)] at this
  omega
theorem less_ok {a b : Nat → Int} {s : Int} (hs : -1099511627776 ≤ s ∧ s ≤ 1099511627776) : ∀ {k : Nat}, k ≤ 6 → (∀ u, u < k → -2199023255552 ≤ a u ∧ a u ≤ 2199023255552) → (∀ u, u < k → -2199023255552 ≤ b u ∧ b u ≤ 2199023255552) →
    ∃ v, lessN opsF a b (s, false) k = (v, false) ∧ 2199023255552 * s - 2 * sm (fun u => a u * b u) k - 1099511627776 * k ≤ 2199023255552 * v ∧ 2199023255552 * v ≤ 2199023255552 * s - 2 * sm (fun u => a u * b u) k + 1099511627776 * k ∧
      -(5497558138880 * k) - 1099511627776 ≤ v ∧ v ≤ 5497558138880 * k + 1099511627776
  | 0, _, _, _ => ⟨s, rfl, by rw [sm]; omega, by rw [sm]; omega, by omega, by omega⟩
  | k + 1, hk, ha, hb => by
    obtain ⟨v, e, h1, h2, h3, h4⟩ := less_ok hs (k := k) (by omega) (fun u hu => ha u (by omega)) fun u hu => hb u (by omega)
    have a1 := ha k (by omega)
    have b1 := hb k (by omega)
    obtain ⟨p, ep, p1, p2⟩ := mul_small (a := a k) (b := b k) (by omega) (by omega)
    obtain ⟨q1, q2⟩ := mul_bound a1 b1
    have es : fsub false v p = (v - p, false) := sub_ok (by omega) (by omega)
    refine ⟨v - p, ?_, ?_, ?_, ?_, ?_⟩
    · show opsF.sub (opsF.mul (lessN opsF a b (s, false) k).2 (a k) (b k)).2 (lessN opsF a b (s, false) k).1 (opsF.mul (lessN opsF a b (s, false) k).2 (a k) (b k)).1 = _
      rw [e]
      show fsub (fmul false (a k) (b k)).2 v (fmul false (a k) (b k)).1 = _
      rw [ep]
      exact es
    all_goals first | rw [sm] | skip
    all_goals omega
theorem div_ok {s l : Int} (hs : -4503599627370496 ≤ s ∧ s ≤ 4503599627370496) (h0 : 17179869184 ≤ l) (h1 : l ≤ 2199023255552) : ∃ v, fdiv false s l = (v, false) ∧ 2199023255552 * s - l ≤ 2 * l * v ∧ 2 * l * v ≤ 2199023255552 * s + l := by
  have e : fdiv false s l = (ratio3 s 1099511627776 l, false) := by
    have e : (false || !nums? [s, l]) = false := by simp [nums?, num_small (x := s) (by omega) (by omega), num_small (x := l) (by omega) (by omega)]
    unfold fdiv
    rw [e, cond_false]
    have e1 : iabs l = l := iabs_of_nonneg (by omega)
    have e2 : iabs 1099511627776 = 1099511627776 := rfl
    refine fratio_ok (by rw [e1]; omega) ?_
    rw [e1, e2]
    have := iabs_le hs
    omega
  exact ⟨_, e, fdiv_spec (by omega) e⟩
theorem sqrt_ok {s : Int} (h0 : 268435456 ≤ s) (h1 : s ≤ 1099511627786) : ∃ q, fsqrt false s = (q, false) ∧ q * q ≤ s * 1099511627776 ∧ s * 1099511627776 ≤ q * q + 2 * q ∧ 17179869184 ≤ q ∧ q ≤ 2199023255552 := by
  have e : (false || !nums? [s]) = false := by simp [nums?, num_small (x := s) (by omega) (by omega)]
  have e126 : (2 : Int) ^ 126 = 85070591730234615865843651857942052864 := by decide
  obtain ⟨i0, _, i2, i3⟩ := isq_spec (W := s * 1099511627776) (by omega) (by omega)
  refine ⟨isq (s * 1099511627776), ?_, i2, ?_, ?_, ?_⟩
  · unfold fsqrt
    rw [e, cond_false, decide_eq_false (by omega), cond_false]
  · grind
  · have : 17179869184 < isq (s * 1099511627776) + 1 := sq_lt_imp (by omega) (by omega)
    omega
  · have : isq (s * 1099511627776) < 2199023255552 + 1 := sq_lt_imp (by omega) (by omega)
    omega
end Go.Ab
/- Roots of heavy matrices are there. -/
namespace Go.Ab
open Go Go.Proofs
structure Hv (m : Mx) (n : Nat) : Prop where
  rng : ∀ i j, i < n → j < n → -1099511627776 ≤ m i j ∧ m i j ≤ 1099511627776
  sym : ∀ i j, i < n → j < n → m i j = m j i
  dom : ∀ r, r < n → sm (fun k => if k ≠ r then ab (m r k) else 0) n + 1073741824 ≤ m r r
structure Part (L m : Mx) (i j : Nat) : Prop where
  dg : ∀ t, t < i → Dg L m t
  off : ∀ r t, t < r → (r < i ∨ (r = i ∧ t < j)) → OffD L m r t
  zero : ∀ r t, (i < r ∨ r < t ∨ (r = i ∧ j ≤ t)) → L r t = 0
theorem sm_mono {f : Nat → Int} (h : ∀ k, 0 ≤ f k) {N : Nat} : ∀ {n : Nat}, N ≤ n → sm f N ≤ sm f n
  | 0, hn => by have : N = 0 := by omega
                subst this; exact Int.le_refl _
  | n + 1, hn => by
    by_cases e : N = n + 1
    · subst e; exact Int.le_refl _
    · have := sm_mono h (N := N) (n := n) (by omega)
      have := h n
      rw [sm]
      omega
theorem Hv.dom0 {m : Mx} {n N : Nat} (h : Hv m n) (hN : N ≤ n) (L : Mx) : Dom L m N 0 := by
  intro r _ hr
  have d := h.dom r (by omega)
  have e : sm (fun k => if 0 ≤ k ∧ k ≠ r then ab (Am L m 0 r k) else 0) N = 1099511627776 * sm (fun k => if k ≠ r then ab (m r k) else 0) N := by
    rw [← sm_mul]
    refine sm_congr fun k _ => ?_
    have ea : Am L m 0 r k = 1099511627776 * m r k := by unfold Am; rw [sm]; omega
    by_cases hk : k ≠ r
    · rw [if_pos ⟨Nat.zero_le _, hk⟩, if_pos hk, ea, ab_mul]
      rfl
    · rw [if_neg (fun c => hk c.2), if_neg hk]
      rfl
  have ea : Am L m 0 r r = 1099511627776 * m r r := by unfold Am; rw [sm]; omega
  have := sm_mono (f := fun k => if k ≠ r then ab (m r k) else 0) (fun k => by
    by_cases hk : k ≠ r
    · rw [if_pos hk]; unfold ab; omega
    · rw [if_neg hk]; omega) hN
  rw [e, ea]
  omega
theorem Am_congr {L L' m : Mx} {t r k : Nat} (h : ∀ u, u < t → L' r u = L r u ∧ L' k u = L k u) : Am L' m t r k = Am L m t r k := by
  unfold Am
  rw [sm_congr (f := fun u => L' r u * L' k u) (g := fun u => L r u * L k u) fun u hu => by rw [(h u hu).1, (h u hu).2]]
theorem Dg.congr {L L' m : Mx} {t : Nat} (h : ∀ u, u ≤ t → L' t u = L t u) (d : Dg L m t) : Dg L' m t := by
  have e := h t (Nat.le_refl _)
  have a : Am L' m t t t = Am L m t t t := Am_congr fun u hu => ⟨h u (by omega), h u (by omega)⟩
  exact ⟨by rw [e, a]; exact d.lo, by rw [e, a]; exact d.hi, by rw [e]; exact d.big, by rw [e]; exact d.small⟩
theorem OffD.congr {L L' m : Mx} {r t : Nat} (h : ∀ u, u ≤ t → L' r u = L r u ∧ L' t u = L t u) (d : OffD L m r t) : OffD L' m r t := by
  obtain ⟨e, e'⟩ := h t (Nat.le_refl _)
  have a : Am L' m t r t = Am L m t r t := Am_congr fun u hu => h u (by omega)
  exact ⟨by rw [e, e', a]; exact d.lo, by rw [e, e', a]; exact d.hi⟩
theorem setM_at (L : Mx) (i j : Nat) (v : Int) : setM L i j v i j = v := by unfold setM; simp
theorem setM_ne {L : Mx} {i j a b : Nat} {v : Int} (h : a ≠ i ∨ b ≠ j) : setM L i j v a b = L a b := by
  unfold setM
  have : (Nat.beq a i && Nat.beq b j) = false := by
    cases hc : (Nat.beq a i && Nat.beq b j) with
    | false => rfl
    | true =>
      rw [Bool.and_eq_true] at hc
      have := Nat.eq_of_beq_eq_true hc.1
      have := Nat.eq_of_beq_eq_true hc.2
      omega
  rw [this, cond_false]
theorem Part.rel {L m : Mx} {i j : Nat} (p : Part L m i j) (_hj : j ≤ i) {r u : Nat} (hu : u ≤ r) (h : r < i ∨ (r = i ∧ u ≤ j)) : Rel2 L m (r + 1) u :=
  ⟨fun t ht => p.dg t (by omega), fun r' t h1 h2 h3 => p.off r' t h2 (by omega)⟩
theorem Part.bd {L m : Mx} {n i j : Nat} (hv : Hv m n) (hn : n ≤ 6) (hi : i < n) (p : Part L m i j) (hj : j ≤ i) {r u : Nat} (hu : u < r) (h : r < i ∨ (r = i ∧ u < j)) : -2199023255552 ≤ L r u ∧ L r u ≤ 2199023255552 := by
  have := ent_bound (L := L) (N := r + 1) (fun a b ha hb => hv.sym a b (by omega) (by omega)) (by omega) (hv.dom0 (by omega) L) (p.rel hj (r := r) (u := u + 1) (by omega) (by omega)) hu (by omega)
  have := (p.dg u (by omega)).small
  unfold ab at *
  omega
theorem Part.dom {L m : Mx} {n i j : Nat} (hv : Hv m n) (hn : n ≤ 6) (hi : i < n) (p : Part L m i j) (hj : j ≤ i) : Dom L m (i + 1) j :=
  dom_all (fun a b ha hb => hv.sym a b (by omega) (by omega)) (by omega) (hv.dom0 (by omega) L) j (by omega) (p.rel hj hj (by omega))
theorem cols_ok {L m : Mx} {n i : Nat} (hv : Hv m n) (hn : n ≤ 6) (hi : i < n) (p : Part L m i 0) : ∀ j, j ≤ i → ∃ L', rootCols opsF m i (L, false) j = (L', false) ∧ Part L' m i j
  | 0, _ => ⟨L, rfl, p⟩
  | j + 1, hj => by
    obtain ⟨M, e, p⟩ := cols_ok hv hn hi p j (by omega)
    have dm := p.dom hv hn hi (by omega)
    have r1 := hv.rng i j hi (by omega)
    have r2 := hv.rng j j (by omega) (by omega)
    have dg := p.dg j (by omega)
    obtain ⟨s, es, s1, s2, s3, s4⟩ := less_ok (a := M i) (b := M j) (s := m i j) (by omega) (k := j) (by omega) (fun u hu => p.bd hv hn hi (by omega) (by omega) (by omega)) (fun u hu => p.bd hv hn hi (by omega) hu (by omega))
    obtain ⟨v, ev, v1, v2⟩ := div_ok (s := s) (l := M j j) (by omega) dg.big dg.small
    refine ⟨setM M i j v, ?_, ?_⟩
    · have ea : opsF.add (rootCols opsF m i (L, false) j).2 (m i j) 0 = (m i j, false) := by
        rw [e]
        show fadd false (m i j) 0 = _
        rw [add_ok (by omega) (by omega), Int.add_zero]
      show (setM (rootCols opsF m i (L, false) j).1 i j (opsF.div (lessN opsF ((rootCols opsF m i (L, false) j).1 i) ((rootCols opsF m i (L, false) j).1 j) (opsF.add (rootCols opsF m i (L, false) j).2 (m i j) 0) j).2
        (lessN opsF ((rootCols opsF m i (L, false) j).1 i) ((rootCols opsF m i (L, false) j).1 j) (opsF.add (rootCols opsF m i (L, false) j).2 (m i j) 0) j).1 ((rootCols opsF m i (L, false) j).1 j j)).1, (opsF.div (lessN opsF ((rootCols opsF m i (L, false) j).1 i) ((rootCols opsF m i (L, false) j).1 j) (opsF.add (rootCols opsF m i (L, false) j).2 (m i j) 0) j).2
        (lessN opsF ((rootCols opsF m i (L, false) j).1 i) ((rootCols opsF m i (L, false) j).1 j) (opsF.add (rootCols opsF m i (L, false) j).2 (m i j) 0) j).1 ((rootCols opsF m i (L, false) j).1 j j)).2) = _
      rw [ea, e]
      dsimp only
      rw [es]
      show (setM M i j (fdiv false s (M j j)).1, (fdiv false s (M j j)).2) = _
      rw [ev]
    · have new : OffD (setM M i j v) m i j := by
        have a : Am (setM M i j v) m j i j = Am M m j i j := Am_congr fun u hu => ⟨setM_ne (by omega), setM_ne (by omega)⟩
        have b : Am M m j i j = 1099511627776 * m i j - sm (fun u => M i u * M j u) j := rfl
        have d : setM M i j v j j = M j j := setM_ne (by omega)
        have c : 2 * M j j * v = 2 * (v * M j j) := by grind
        have := dg.big
        have := dg.small
        exact ⟨by rw [a, setM_at, d, b]; omega, by rw [a, setM_at, d, b]; omega⟩
      refine ⟨fun t ht => (p.dg t ht).congr fun u hu => setM_ne (by omega), fun r t h1 h2 => ?_, fun r t h => ?_⟩
      · by_cases h : r = i ∧ t = j
        · rw [h.1, h.2]; exact new
        · exact (p.off r t h1 (by omega)).congr fun u hu => ⟨setM_ne (by omega), setM_ne (by omega)⟩
      · rw [setM_ne (by omega)]
        exact p.zero r t (by omega)
theorem row_ok {L m : Mx} {n i : Nat} (hv : Hv m n) (hn : n ≤ 6) (hi : i < n) (p : Part L m i 0) : ∃ L', rootRow opsF m i (L, false) = (L', false) ∧ Part L' m (i + 1) 0 := by
  obtain ⟨M, e, p⟩ := cols_ok hv hn hi p i (Nat.le_refl _)
  have dm := dom_diag (p.dom hv hn hi (Nat.le_refl _)) (Nat.le_refl _) (by omega)
  have up := Am_le (L := M) (m := m) i i
  have r1 := hv.rng i i hi hi
  have bd : ∀ u, u < i → -2199023255552 ≤ M i u ∧ M i u ≤ 2199023255552 := fun u hu => p.bd hv hn hi (Nat.le_refl _) hu (by omega)
  obtain ⟨s, es, s1, s2, s3, s4⟩ := less_ok (a := M i) (b := M i) (s := m i i) (by omega) (k := i) (by omega) bd bd
  have b : Am M m i i i = 1099511627776 * m i i - sm (fun u => M i u * M i u) i := rfl
  obtain ⟨q, eq, q1, q2, q3, q4⟩ := sqrt_ok (s := s) (by omega) (by omega)
  refine ⟨setM M i i q, ?_, ?_⟩
  · have ea : opsF.add (rootCols opsF m i (L, false) i).2 (m i i) 0 = (m i i, false) := by
      rw [e]
      show fadd false (m i i) 0 = _
      rw [add_ok (by omega) (by omega), Int.add_zero]
    unfold rootRow
    dsimp only
    rw [ea, e]
    dsimp only
    rw [es]
    dsimp only
    rw [decide_eq_false (show ¬ s < 1 by omega), cond_false]
    show (setM M i i (fsqrt false s).1, (fsqrt false s).2) = _
    rw [eq]
  · have new : Dg (setM M i i q) m i := by
      have a : Am (setM M i i q) m i i i = Am M m i i i := Am_congr fun u hu => ⟨setM_ne (by omega), setM_ne (by omega)⟩
      exact ⟨by rw [a, setM_at, b]; omega, by rw [a, setM_at, b]; omega, by rw [setM_at]; omega, by rw [setM_at]; omega⟩
    refine ⟨fun t ht => ?_, fun r t h1 h2 => ?_, fun r t h => ?_⟩
    · by_cases h : t = i
      · rw [h]; exact new
      · exact (p.dg t (by omega)).congr fun u hu => setM_ne (by omega)
    · exact (p.off r t h1 (by omega)).congr fun u hu => ⟨setM_ne (by omega), setM_ne (by omega)⟩
    · rw [setM_ne (by omega)]
      exact p.zero r t (by omega)
theorem rows_ok {m : Mx} {n : Nat} (hv : Hv m n) (hn : n ≤ 6) : ∀ i, i ≤ n → ∃ L, rootRows opsF m false i = (L, false) ∧ Part L m i 0
  | 0, _ => ⟨mx0, rfl, ⟨fun t h => by omega, fun r t h1 h2 => by omega, fun r t _ => rfl⟩⟩
  | i + 1, hi => by
    obtain ⟨L, e, p⟩ := rows_ok hv hn i (by omega)
    obtain ⟨L', e', p'⟩ := row_ok hv hn (by omega) p
    refine ⟨L', ?_, p'⟩
    show rootRow opsF m i (rootRows opsF m false i) = _
    rw [e]
    exact e'
end Go.Ab
/- The square of the root of a heavy matrix is the matrix. -/
namespace Go.Ab
open Go Go.Proofs
theorem sum_ok {a b : Nat → Int} : ∀ {k : Nat}, k ≤ 6 → (∀ u, u < k → -2199023255552 ≤ a u ∧ a u ≤ 2199023255552) → (∀ u, u < k → -2199023255552 ≤ b u ∧ b u ≤ 2199023255552) →
    ∃ v, sumN opsF a b false k = (v, false) ∧ 2 * sm (fun u => a u * b u) k - 1099511627776 * k ≤ 2199023255552 * v ∧ 2199023255552 * v ≤ 2 * sm (fun u => a u * b u) k + 1099511627776 * k ∧
      -(5497558138880 * k) ≤ v ∧ v ≤ 5497558138880 * k
  | 0, _, _, _ => ⟨0, rfl, by rw [sm]; omega, by rw [sm]; omega, by omega, by omega⟩
  | k + 1, hk, ha, hb => by
    obtain ⟨v, e, h1, h2, h3, h4⟩ := sum_ok (k := k) (by omega) (fun u hu => ha u (by omega)) fun u hu => hb u (by omega)
    have a1 := ha k (by omega)
    have b1 := hb k (by omega)
    obtain ⟨p, ep, p1, p2⟩ := mul_small (a := a k) (b := b k) (by omega) (by omega)
    obtain ⟨q1, q2⟩ := mul_bound a1 b1
    have es : fadd false v p = (v + p, false) := add_ok (by omega) (by omega)
    refine ⟨v + p, ?_, ?_, ?_, ?_, ?_⟩
    · show opsF.add (opsF.mul (sumN opsF a b false k).2 (a k) (b k)).2 (sumN opsF a b false k).1 (opsF.mul (sumN opsF a b false k).2 (a k) (b k)).1 = _
      rw [e]
      show fadd (fmul false (a k) (b k)).2 v (fmul false (a k) (b k)).1 = _
      rw [ep]
      exact es
    all_goals first | rw [sm] | skip
    all_goals omega
theorem sm_cut {f : Nat → Int} {j : Nat} : ∀ {n : Nat}, j < n → (∀ u, j < u → u < n → f u = 0) → sm f n = sm f j + f j
  | 0, h, _ => by omega
  | n + 1, h, hz => by
    by_cases e : j = n
    · subst e; rfl
    · rw [sm, sm_cut (n := n) (by omega) fun u h1 h2 => hz u h1 (by omega), hz n (by omega) (by omega), Int.add_zero]
theorem back_le {L m : Mx} {n : Nat} (p : Part L m n 0) {i j : Nat} (hi : i < n) (hj : j ≤ i) :
    -7696581394432 ≤ sm (fun u => L i u * L j u) n - 1099511627776 * m i j ∧ sm (fun u => L i u * L j u) n - 1099511627776 * m i j ≤ 7696581394432 := by
  rw [sm_cut (f := fun u => L i u * L j u) (j := j) (n := n) (by omega) fun u h1 _ => by rw [p.zero j u (by omega), Int.mul_zero]]
  have b : Am L m j i j = 1099511627776 * m i j - sm (fun u => L i u * L j u) j := rfl
  by_cases h : j = i
  · subst h
    have d := p.dg j hi
    have := d.lo
    have := d.hi
    omega
  · have o := p.off i j (by omega) (by omega)
    have := o.lo
    have := o.hi
    omega
theorem back_all {L m : Mx} {n : Nat} (hv : Hv m n) (p : Part L m n 0) {i j : Nat} (hi : i < n) (hj : j < n) :
    -7696581394432 ≤ sm (fun u => L i u * L j u) n - 1099511627776 * m i j ∧ sm (fun u => L i u * L j u) n - 1099511627776 * m i j ≤ 7696581394432 := by
  by_cases h : j ≤ i
  · exact back_le p hi h
  · have := back_le p (i := j) (j := i) hj (by omega)
    rw [hv.sym i j hi hj, sm_congr (f := fun u => L i u * L j u) (g := fun u => L j u * L i u) fun u _ => Int.mul_comm _ _]
    exact this
theorem Part.bdn {L m : Mx} {n : Nat} (hv : Hv m n) (hn : n ≤ 6) (p : Part L m n 0) (r u : Nat) (hr : r < n) : -2199023255552 ≤ L r u ∧ L r u ≤ 2199023255552 := by
  by_cases h : u < r
  · have := ent_bound (L := L) (m := m) (N := r + 1) (fun a b ha hb => hv.sym a b (by omega) (by omega)) (by omega) (hv.dom0 (by omega) L) ⟨fun t ht => p.dg t (by omega), fun r' t h1 h2 h3 => p.off r' t h2 (by omega)⟩ h (by omega)
    have := (p.dg u (by omega)).small
    unfold ab at *
    omega
  · by_cases h' : u = r
    · subst h'
      have d := p.dg u hr
      have := d.big
      have := d.small
      omega
    · rw [p.zero r u (by omega)]
      omega
theorem sqrow_ok {l : Mx} {n i : Nat} (hn : n ≤ 6) (hi : i < n) (bd : ∀ r u, r < n → u < n → -2199023255552 ≤ l r u ∧ l r u ≤ 2199023255552) (S : Mx) : ∀ j, j ≤ n → ∃ S', sqRowN opsF l n i (S, false) j = (S', false) ∧
    (∀ r t, (r ≠ i ∨ j ≤ t) → S' r t = S r t) ∧ ∀ t, t < j → 2 * sm (fun u => l i u * l t u) n - 1099511627776 * n ≤ 2199023255552 * S' i t ∧ 2199023255552 * S' i t ≤ 2 * sm (fun u => l i u * l t u) n + 1099511627776 * n
  | 0, _ => ⟨S, rfl, fun _ _ _ => rfl, fun t h => by omega⟩
  | j + 1, hj => by
    obtain ⟨M, e, h1, h2⟩ := sqrow_ok hn hi bd S j (by omega)
    obtain ⟨v, ev, v1, v2, _, _⟩ := sum_ok (a := l i) (b := l j) hn (fun u hu => bd i u hi hu) fun u hu => bd j u (by omega) hu
    refine ⟨setM M i j v, ?_, fun r t h => ?_, fun t ht => ?_⟩
    · show (setM (sqRowN opsF l n i (S, false) j).1 i j (sumN opsF (l i) (l j) (sqRowN opsF l n i (S, false) j).2 n).1, (sumN opsF (l i) (l j) (sqRowN opsF l n i (S, false) j).2 n).2) = _
      rw [e]
      dsimp only
      rw [ev]
    · rw [setM_ne (by omega)]
      exact h1 r t (by omega)
    · by_cases h : t = j
      · subst h
        rw [setM_at]
        exact ⟨v1, v2⟩
      · rw [setM_ne (by omega)]
        exact h2 t (by omega)
theorem sq_ok {l : Mx} {n : Nat} (hn : n ≤ 6) (bd : ∀ r u, r < n → u < n → -2199023255552 ≤ l r u ∧ l r u ≤ 2199023255552) : ∀ i, i ≤ n → ∃ S, sqN opsF l n false i = (S, false) ∧
    ∀ r t, r < i → t < n → 2 * sm (fun u => l r u * l t u) n - 1099511627776 * n ≤ 2199023255552 * S r t ∧ 2199023255552 * S r t ≤ 2 * sm (fun u => l r u * l t u) n + 1099511627776 * n
  | 0, _ => ⟨mx0, rfl, fun r t h => by omega⟩
  | i + 1, hi => by
    obtain ⟨M, e, h⟩ := sq_ok hn bd i (by omega)
    obtain ⟨S, e', h1, h2⟩ := sqrow_ok hn (show i < n by omega) bd M n (Nat.le_refl _)
    refine ⟨S, ?_, fun r t hr ht => ?_⟩
    · show sqRowN opsF l n i (sqN opsF l n false i) n = _
      rw [e]
      exact e'
    · by_cases c : r = i
      · subst c
        exact h2 t ht
      · rw [h1 r t (by omega)]
        exact h r t (by omega) ht
theorem R6.of_at (v : Nat → Int) : ∀ {j : Nat}, j < 6 → (R6.of v).at j = v j
  | 0, _ => rfl
  | 1, _ => rfl
  | 2, _ => rfl
  | 3, _ => rfl
  | 4, _ => rfl
  | 5, _ => rfl
  | n + 6, h => by omega
theorem M6.of_at (L : Mx) : ∀ {i j : Nat}, i < 6 → j < 6 → (M6.of L).at i j = L i j
  | 0, _, _, h => R6.of_at _ h
  | 1, _, _, h => R6.of_at _ h
  | 2, _, _, h => R6.of_at _ h
  | 3, _, _, h => R6.of_at _ h
  | 4, _, _, h => R6.of_at _ h
  | 5, _, _, h => R6.of_at _ h
  | n + 6, _, h, _ => by omega
theorem okN_iff {n : Int} : okN n = true ↔ 1 ≤ n ∧ n ≤ 6 := by unfold okN; simp
theorem matRoot_heavy {m : M6} {n : Nat} (hv : Hv m.at n) (h1 : 1 ≤ n) (hn : n ≤ 6) : ∃ L, matRootN opsF false (m, n, ()) = (M6.of L, false) ∧ Part L m.at n 0 := by
  obtain ⟨L, e, p⟩ := rows_ok hv hn n (Nat.le_refl _)
  refine ⟨L, ?_, p⟩
  unfold matRootN
  rw [byN_ok _ _ _ (okN_iff.2 (by dsimp only; omega)), cond_false]
  show doneM (rootRows opsF m.at false (Int.toNat n)) = _
  rw [Int.toNat_natCast, e]
  rfl
theorem matBack {m : M6} {n : Nat} (hv : Hv m.at n) (h1 : 1 ≤ n) (hn : n ≤ 6) : ∃ s, matSquare opsF false ((matRootN opsF false (m, n, ())).1, n, ()) = (s, false) ∧ (matRootN opsF false (m, n, ())).2 = false ∧
    ∀ i j, i < n → j < n → -64 ≤ s.at i j - m.at i j ∧ s.at i j - m.at i j ≤ 64 := by
  obtain ⟨L, e, p⟩ := matRoot_heavy hv h1 hn
  rw [e]
  have at' : ∀ r u, r < n → u < n → (M6.of L).at r u = L r u := fun r u hr hu => M6.of_at L (by omega) (by omega)
  obtain ⟨S, eS, h⟩ := sq_ok (l := (M6.of L).at) hn (fun r u hr hu => by rw [at' r u hr hu]; exact p.bdn hv hn r u hr) n (Nat.le_refl _)
  refine ⟨M6.of S, ?_, rfl, fun i j hi hj => ?_⟩
  · unfold matSquare
    dsimp only
    rw [byN_ok _ _ _ (okN_iff.2 (by omega)), cond_false, Int.toNat_natCast, eS]
    rfl
  · rw [M6.of_at S (by omega) (by omega)]
    have := h i j hi hj
    rw [sm_congr (f := fun u => (M6.of L).at i u * (M6.of L).at j u) (g := fun u => L i u * L j u) fun u hu => by rw [at' i u hi hu, at' j u hj hu]] at this
    have := back_all hv p hi hj
    omega
end Go.Ab
