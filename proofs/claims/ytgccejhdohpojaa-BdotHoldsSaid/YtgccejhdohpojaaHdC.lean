/- A part of the proof of 'BdotHolds': lemmas, no statement of their own; no condition. -/
import Derived.Test.YtgccejhdohpojaaHdB
import Derived.Test.YtgccejhdohpojaaNumAll
/- BdotHolds, the plain law: one field more holds. -/
namespace Go.Ab
open Go Go.Proofs
abbrev hdLim : Int := 219902325555200
abbrev hdM : Int := 50000000000000000
def Part (x : Int) : Prop := -219902325555200 ≤ x ∧ x ≤ 219902325555200
theorem hd_num {x : Int} (h : -900000000000000000 ≤ x ∧ x ≤ 900000000000000000) : num x = true := by
  unfold num; rw [decide_eq_true (by omega), decide_eq_true (by omega)]; rfl
theorem hd_tdiv {s g : Int} (hg : 0 < g) : (0 ≤ s → 0 ≤ s.tdiv g ∧ g * s.tdiv g ≤ s ∧ s < g * s.tdiv g + g) ∧ (s ≤ 0 → s.tdiv g ≤ 0 ∧ s ≤ g * s.tdiv g ∧ g * s.tdiv g - g < s) := by
  have pos : ∀ s : Int, 0 ≤ s → 0 ≤ s.tdiv g ∧ g * s.tdiv g ≤ s ∧ s < g * s.tdiv g + g := by
    intro s hs
    rw [Int.tdiv_eq_ediv_of_nonneg hs]
    have h0 := Int.ediv_nonneg hs (b := g) (by omega)
    have e := Int.mul_ediv_add_emod s g
    have h1 := Int.emod_nonneg s (b := g) (by omega)
    have h2 := Int.emod_lt_of_pos s hg
    omega
  refine ⟨pos s, fun hs => ?_⟩
  have h := pos (-s) (by omega)
  rw [Int.neg_tdiv, Int.mul_neg] at h
  omega
/-- The change of a part in a second, and how near the document's rate is to it. -/
theorem hd_chg {m pr g : Int} (hm : Part m) (hp : Part pr) (h1 : 10 ≤ g) (h2 : g ≤ 10000) :
    (0 ≤ m - pr → 0 ≤ chgV m pr g ∧ chgV m pr g ≤ 44000000000000000 ∧ 0 ≤ ratio3 (m - pr) 1000 g ∧ ratio3 (m - pr) 1000 g ≤ chgV m pr g + 1001) ∧
    (m - pr ≤ 0 → chgV m pr g ≤ 0 ∧ -44000000000000000 ≤ chgV m pr g ∧ ratio3 (m - pr) 1000 g ≤ 0 ∧ chgV m pr g - 1001 ≤ ratio3 (m - pr) 1000 g) := by
  obtain ⟨m1, m2⟩ := hm
  obtain ⟨p1, p2⟩ := hp
  have hw : IntKind.i64.wrap (m - pr) = m - pr := wrap_i64_id (by omega) (by omega)
  unfold chgV
  rw [hw]
  generalize hs : m - pr = s at *
  obtain ⟨k1, k2⟩ := hd_tdiv (s := s) (g := g) (by omega)
  generalize ht : s.tdiv g = t at *
  have hr := ratio3_spec (a := s) (b := 1000) (c := g) (by omega)
  generalize hpe : ratio3 s 1000 g = p at *
  have tb : (0 ≤ s → 0 ≤ t ∧ t ≤ 43980465111040) ∧ (s ≤ 0 → t ≤ 0 ∧ -43980465111040 ≤ t) := by
    refine ⟨fun h => ⟨(k1 h).1, ?_⟩, fun h => ⟨(k2 h).1, ?_⟩⟩
    · have a := (k1 h).2.1
      have := Int.mul_le_mul_of_nonneg_right h1 (k1 h).1
      omega
    · have a := (k2 h).2.1
      have := Int.mul_le_mul_of_nonneg_right h1 (c := -t) (by have := (k2 h).1; omega)
      rw [Int.mul_neg, Int.mul_neg] at this
      omega
  have tb' : -43980465111040 ≤ t ∧ t ≤ 43980465111040 := by
    rcases Int.le_total 0 s with h | h
    · have := tb.1 h; omega
    · have := tb.2 h; omega
  rw [wrap_i64_id (z := t) (by omega) (by omega), wrap_i64_id (z := t * 1000) (by omega) (by omega)]
  have up : ∀ c : Int, g * (2 * p) < g * c → 2 * p < c := fun c h => Int.lt_of_mul_lt_mul_left h (by omega)
  have dn : ∀ c : Int, g * c < g * (2 * p) → c < 2 * p := fun c h => Int.lt_of_mul_lt_mul_left h (by omega)
  have e : 2 * g * p = g * (2 * p) := by rw [Int.mul_comm 2 g, Int.mul_assoc]
  rw [e] at hr
  have e1 : g * (2000 * t + 2002) = 2000 * (g * t) + 2002 * g := by rw [Int.mul_add, Int.mul_left_comm]; omega
  have e2 : g * (2000 * t - 2002) = 2000 * (g * t) - 2002 * g := by rw [Int.mul_sub, Int.mul_left_comm]; omega
  have e3 : g * (-2) = -(2 * g) := by omega
  have e4 : g * 2 = 2 * g := by omega
  refine ⟨fun h => ?_, fun h => ?_⟩
  · obtain ⟨a1, a2, a3⟩ := k1 h
    have := tb.1 h
    have u := up (2000 * t + 2002) (by omega)
    have d := dn (-2) (by omega)
    omega
  · obtain ⟨a1, a2, a3⟩ := k2 h
    have := tb.2 h
    have u := up 2 (by omega)
    have d := dn (2000 * t - 2002) (by omega)
    omega
theorem max2_ge (a b : Int) : a ≤ max2 a b ∧ b ≤ max2 a b ∧ (max2 a b = a ∨ max2 a b = b) := by unfold max2; split <;> omega
def mostV (mo c : Int) : Int := max2 (max2 mo (IntKind.i64.wrap (c + 4096))) (IntKind.i64.wrap (IntKind.i64.wrap (0 - c) + 4096))
theorem most_ok {m pr g mo : Int} (hm : Part m) (hp : Part pr) (h1 : 10 ≤ g) (h2 : g ≤ 10000) (h3 : mo ≤ hdM) :
    mo ≤ mostV mo (chgV m pr g) ∧ mostV mo (chgV m pr g) ≤ hdM ∧ 4096 ≤ mostV mo (chgV m pr g) ∧ -mostV mo (chgV m pr g) ≤ ratio3 (m - pr) 1000 g ∧ ratio3 (m - pr) 1000 g ≤ mostV mo (chgV m pr g) := by
  obtain ⟨a, b⟩ := hd_chg hm hp h1 h2
  generalize chgV m pr g = c at *
  generalize ratio3 (m - pr) 1000 g = p at *
  have hc : -44000000000000000 ≤ c ∧ c ≤ 44000000000000000 := by
    rcases Int.le_total 0 (m - pr) with h | h
    · have := a h; omega
    · have := b h; omega
  unfold mostV
  rw [wrap_i64_id (z := c + 4096) (by omega) (by omega), wrap_i64_id (z := 0 - c) (by omega) (by omega), wrap_i64_id (z := 0 - c + 4096) (by omega) (by omega)]
  have x := max2_ge mo (c + 4096)
  have y := max2_ge (max2 mo (c + 4096)) (0 - c + 4096)
  unfold hdM at *
  rcases Int.le_total 0 (m - pr) with h | h
  · have := a h; omega
  · have := b h; omega
/-- Towards the rate that was seen, and not past it. -/
theorem hd_near {q g : Int} (hg : 0 < g) : (0 ≤ q → 0 ≤ ratio3 q g (g + 2000) ∧ ratio3 q g (g + 2000) ≤ q) ∧ (q ≤ 0 → q ≤ ratio3 q g (g + 2000) ∧ ratio3 q g (g + 2000) ≤ 0) := by
  have hr := ratio3_spec (a := q) (b := g) (c := g + 2000) (by omega)
  generalize hG : g + 2000 = G at *
  generalize ratio3 q g G = k at *
  have e : 2 * G * k = G * (2 * k) := by rw [Int.mul_comm 2 G, Int.mul_assoc]
  rw [e] at hr
  have up : ∀ c : Int, G * (2 * k) < G * c → 2 * k < c := fun c h => Int.lt_of_mul_lt_mul_left h (by omega)
  have dn : ∀ c : Int, G * c < G * (2 * k) → c < 2 * k := fun c h => Int.lt_of_mul_lt_mul_left h (by omega)
  have e1 : G * (2 * q + 2) = 2 * (q * G) + 2 * G := by rw [Int.mul_add, Int.mul_left_comm, Int.mul_comm G q]; omega
  have e2 : G * (2 * q - 2) = 2 * (q * G) - 2 * G := by rw [Int.mul_sub, Int.mul_left_comm, Int.mul_comm G q]; omega
  refine ⟨fun h => ?_, fun h => ?_⟩
  · have a : 0 ≤ q * g := Int.mul_nonneg h (by omega)
    have b : q * g ≤ q * G := Int.mul_le_mul_of_nonneg_left (by omega) h
    have u := up (2 * q + 2) (by omega)
    have d := dn (-2) (by omega)
    omega
  · have a : 0 ≤ -q * g := Int.mul_nonneg (by omega) (by omega)
    have b : -q * g ≤ -q * G := Int.mul_le_mul_of_nonneg_left (by omega) (by omega)
    rw [Int.neg_mul] at a b
    rw [Int.neg_mul] at b
    have u := up 2 (by omega)
    have d := dn (2 * q - 2) (by omega)
    omega
theorem hd_iabs {x m : Int} (h : -m ≤ x ∧ x ≤ m) : iabs x ≤ m := by
  unfold iabs
  by_cases h0 : x < 0
  · rw [decide_eq_true h0, cond_true]; omega
  · rw [decide_eq_false h0, cond_false]; omega
theorem fpart_fine {a b c m : Int} (ha : -m ≤ a ∧ a ≤ m) (hm : m ≤ 900000000000000000) (hb : 0 ≤ b ∧ b ≤ 900000000000000000) (hc : 0 < c ∧ c ≤ 900000000000000000) (h : m * b ≤ c * 4611686018427387904) : fpart false a b c = (ratio3 a b c, false) := by
  have e : (false || !nums? [a, b, c]) = false := by
    rw [Bool.false_or, Bool.not_eq_false']
    simp only [nums?, hd_num (x := a) (by omega), hd_num (x := b) (by omega), hd_num (x := c) (by omega)]
    rfl
  unfold fpart
  rw [e, cond_false]
  have hcc : iabs c = c := iabs_of_nonneg (by omega)
  have hbb : iabs b = b := iabs_of_nonneg (by omega)
  refine fratio_ok (by omega) ?_
  rw [hcc, hbb]
  exact Int.le_trans (Int.mul_le_mul_of_nonneg_right (hd_iabs ha) hb.1) h
theorem rate_ok {m l r g mo mo' : Int} (hm : Part m) (hl : Part l) (h1 : 10 ≤ g) (h2 : g ≤ 10000) (hr : -mo ≤ r ∧ r ≤ mo) (hmo : mo ≤ mo') (hM : mo' ≤ hdM) (hp : -mo' ≤ ratio3 (m - l) 1000 g ∧ ratio3 (m - l) 1000 g ≤ mo') :
    ∃ v, rate1 opsF g m l r false = (v, false) ∧ -mo' ≤ v ∧ v ≤ mo' := by
  obtain ⟨m1, m2⟩ := hm
  obtain ⟨l1, l2⟩ := hl
  unfold hdM at hM
  unfold rate1
  simp only [opsF]
  rw [fsub_fine (hd_num (by omega)) (hd_num (by omega)) (hd_num (by omega))]
  dsimp only
  rw [fpart_fine (a := m - l) (m := 439804651110400) (by omega) (by omega) (by omega) (by omega) (by omega)]
  dsimp only
  generalize ratio3 (m - l) 1000 g = p at *
  rw [fsub_fine (hd_num (by omega)) (hd_num (by omega)) (hd_num (by omega))]
  dsimp only
  rw [wrap_i64_id (z := g + 2000) (by omega) (by omega)]
  rw [fpart_fine (a := p - r) (m := 100000000000000000) (by omega) (by omega) (by omega) (by omega) (by omega)]
  dsimp only
  obtain ⟨n1, n2⟩ := hd_near (q := p - r) (g := g) (by omega)
  generalize ratio3 (p - r) g (g + 2000) = k at *
  have hb : -mo' ≤ r + k ∧ r + k ≤ mo' := by
    rcases Int.le_total 0 (p - r) with h | h
    · have := n1 h; omega
    · have := n2 h; omega
  have hk : -200000000000000000 ≤ k ∧ k ≤ 200000000000000000 := by
    rcases Int.le_total 0 (p - r) with h | h
    · have := n1 h; omega
    · have := n2 h; omega
  exact ⟨r + k, fadd_fine (hd_num (by omega)) (hd_num (by omega)) (hd_num (by omega)), hb⟩
def PartV (u : V3) : Prop := Part u.x ∧ Part u.y ∧ Part u.z
def InV (mo : Int) (u : V3) : Prop := (-mo ≤ u.x ∧ u.x ≤ mo) ∧ (-mo ≤ u.y ∧ u.y ≤ mo) ∧ (-mo ≤ u.z ∧ u.z ≤ mo)
theorem last_fine {u : V3} (h : PartV u) : last3 opsF u false = (u, false) := by
  obtain ⟨⟨a1, a2⟩, ⟨b1, b2⟩, ⟨c1, c2⟩⟩ := h
  unfold last3 each3
  simp only [opsF]
  have f : ∀ x : Int, -219902325555200 ≤ x ∧ x ≤ 219902325555200 → fadd false x 0 = (x, false) := fun x h => by
    rw [fadd_fine (hd_num (by omega)) (hd_num (by omega)) (hd_num (by omega)), Int.add_zero]
  rw [f _ ⟨a1, a2⟩]
  dsimp only
  rw [f _ ⟨b1, b2⟩]
  dsimp only
  rw [f _ ⟨c1, c2⟩]
theorem step_first {d : Dr} {u : V3} {tk : Int} (hu : PartV u) (hd : d.on = false) : stepV false (d, u, tk, ()) = (⟨true, tk, u, V3.zero⟩, false) := by
  unfold stepV
  dsimp only
  rw [last_fine hu, hd]
  rfl
theorem step_next {d : Dr} {u : V3} {tk g mo mo' : Int} (hu : PartV u) (hd : d.on = true) (hl : PartV d.last) (h1 : 10 ≤ g) (h2 : g ≤ 10000) (ht : tk = d.tick + g) (hr : InV mo d.rate) (hmo : mo ≤ mo') (hM : mo' ≤ hdM)
    (hp : InV mo' ⟨ratio3 (u.x - d.last.x) 1000 g, ratio3 (u.y - d.last.y) 1000 g, ratio3 (u.z - d.last.z) 1000 g⟩) :
    ∃ r, stepV false (d, u, tk, ()) = (⟨true, tk, u, r⟩, false) ∧ InV mo' r := by
  have hg : gapT tk d.tick = g := by unfold gapT; rw [if_pos (by omega)]; omega
  obtain ⟨x, hx, x1⟩ := rate_ok hu.1 hl.1 h1 h2 hr.1 hmo hM hp.1
  obtain ⟨y, hy, y1⟩ := rate_ok hu.2.1 hl.2.1 h1 h2 hr.2.1 hmo hM hp.2.1
  obtain ⟨z, hz, z1⟩ := rate_ok hu.2.2 hl.2.2 h1 h2 hr.2.2 hmo hM hp.2.2
  refine ⟨⟨x, y, z⟩, ?_, x1, y1, z1⟩
  have hrates : rates opsF g d u false = (⟨x, y, z⟩, false) := by
    unfold rates each3
    rw [hx]
    dsimp only
    rw [hy]
    dsimp only
    rw [hz]
  have h0 : (g == 0) = false := beq_eq_false_iff_ne.2 (by omega)
  unfold stepV
  dsimp only
  rw [last_fine hu, hg, hd, hrates, h0]
  rfl
end Go.Ab
