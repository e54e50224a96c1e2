/- A part of the proof of 'BdotHolds': lemmas, no statement of their own; no condition. -/
import Derived.Test.YtgccejhdohpojaaHdD
/- BdotHolds: no part of the Rate is above the greatest change that was seen in a second. -/
namespace Go.Ab
open Go Go.Proofs
def prt (u : V3) : Nat → Int
  | 0 => u.x
  | 1 => u.y
  | _ => u.z
def VList (w0 : World) (a : Option Addr) (n : Nat) (l : Nat → V3) : Prop := n = 0 ∨ ∃ b, a = some b ∧ ∀ i, i < n → w0.cells? 0 (b.add (i * 3)) 3 = some (v3Cs (l i))
def GList (w0 : World) (a : Option Addr) (n : Nat) (g : Nat → Int) : Prop := n = 0 ∨ ∃ b, a = some b ∧ ∀ i, i < n → w0.cells? 0 (b.add (i * 1)) 1 = some [.int .i64 (g i)]
def RT (w0 : World) (a : Act) (w : World) : Prop := (results Try.f12 a.tmps).run Try.prog w = .ok (.bool true) w ∧ a.defers = [] ∧ Keep (fun k => k < w0.heap.size) w0 w
theorem hdCall : ∀ β, CallOk Try.prog (callN Try.prog { gam := hdG stepV } 1 β) := callN_ok (E := { gam := hdG stepV }) (hdG_ok) 1
theorem add_block {b : Addr} {k : Nat} : (b.add k).block = b.block := by unfold Addr.add; split <;> rfl
section
variable {w0 : World} {p0 p1 : Option Addr} {n0 c0 n1 c1 : Nat} {l : Nat → V3} {gs : Nat → Int}
theorem v_part {b : Addr} (hcells : ∀ i, i < n0 → w0.cells? 0 (b.add (i * 3)) 3 = some (v3Cs (l i))) (hbl : b.block < w0.heap.size) {w : World} (hk : Keep (fun k => k < w0.heap.size) w0 w) {j k s1 s2 : Nat} (hj : j < n0) (hk3 : k < 3) (e1 : s1 = 3) (e2 : s2 = 1) :
    (loadVar 2 ((b.add (j * s1)).add (k * s2))).run Try.prog w = .ok (.int .i64 (prt (l j) k)) w := by
  subst e1 e2
  refine run_loadScalar un2 rfl ?_
  have hc : w.cells? 0 (b.add (j * 3)) 3 = some (v3Cs (l j)) := cells_old hk (F := fun k => k < w0.heap.size) (by rw [add_block]; exact hbl) (hcells j hj)
  obtain ⟨_, _, hat⟩ := World.cells?_some hc
  rw [Nat.mul_one, hat k hk3]
  unfold v3Cs prt
  match k, hk3 with
  | 0, _ => simp
  | 1, _ => simp
  | 2, _ => simp
theorem hd_part (hl : VList w0 p0 n0 l) {i k : Nat} {tk mo : Int} {d : Dr} {gp : Int} (hi : i < n0) (h100 : n0 ≤ 100) (hk : k < 3) (hg : 10 ≤ gp ∧ gp ≤ 10000) (hmo : mo ≤ hdM) (hlast : 0 < i → d.last = l (i - 1) ∧ Part (prt (l (i - 1)) k))
    (h18 : hdRun stepV h18 (hdU (.slice p0 n0 c0) (.slice p1 n1 c1) n0 i tk mo d (l i) gp k []) hdK (12 :: 13 :: hdC) = some (.normal, hdU (.slice p0 n0 c0) (.slice p1 n1 c1) n0 i tk mo d (l i) gp k (hdX k (prt (l i) k))))
    {Q : Exit → Act → World → Prop} {act : Act} {w : World}
    (hN' : ∀ mo' a' w', mo ≤ mo' → mo' ≤ hdM → Part (prt (l i) k) → (0 < i → (-mo' ≤ ratio3 (prt (l i) k - prt d.last k) 1000 gp ∧ ratio3 (prt (l i) k - prt d.last k) 1000 gp ≤ mo') ∧ 4096 ≤ mo') → Stand (fun k => k < w0.heap.size) w0 103 (hdU (.slice p0 n0 c0) (.slice p1 n1 c1) n0 i tk mo' d (l i) gp k []) a' w' → Q .normal a' w')
    (hR : ∀ a' w', RT w0 a' w' → Q .ret a' w') (hst : Stand (fun k => k < w0.heap.size) w0 103 (hdU (.slice p0 n0 c0) (.slice p1 n1 c1) n0 i tk mo d (l i) gp k []) act w) : hN.wp Try.prog Q act w := by
  have e0 : hN = .seq Ab.h18 (.seq h19 (.seq h21 (.cond (.tmp 56) (.seq (.region 22 o22 false) h23) .skip))) := by kernel_rfl
  rw [e0]
  generalize hm : prt (l i) k = m at *
  refine wp_seq ((runs_drop hdCall _ _ h18).stand (ok_X ..) hst fun a1 w1 h1 => ?_)
  have hrun := hr19 stepV (.slice p0 n0 c0) (.slice p1 n1 c1) n0 i tk mo d (l i) gp k m
  by_cases hb1 : m > 219902325555200
  · rw [decide_eq_true hb1, cond_true] at hrun
    exact wp_seq ((runs_drop hdCall _ _ hrun).stand (ok_X4 ..) h1 fun a2 w2 h2 => hR a2 w2 (h2.results (res_X4 ..)))
  by_cases hb2 : m < -219902325555200
  · rw [decide_eq_false hb1, cond_false, decide_eq_true hb2, cond_true] at hrun
    exact wp_seq ((runs_drop hdCall _ _ hrun).stand (ok_X4 ..) h1 fun a2 w2 h2 => hR a2 w2 (h2.results (res_X4 ..)))
  rw [decide_eq_false hb1, cond_false, decide_eq_false hb2, cond_false] at hrun
  have hm1 : Part m := ⟨by omega, by omega⟩
  refine wp_seq ((runs_drop hdCall _ _ hrun).stand (ok_X ..) h1 fun a2 w2 h2 => ?_)
  refine wp_seq ((runs_drop hdCall _ _ (hr21 stepV _ _ _ _ _ _ _ _ _ _ _)).stand (ok_X5 ..) h2 fun a3 w3 h3 => ?_)
  by_cases hi0 : i = 0
  · have e : decide ((i : Int) > 0) = false := decide_eq_false (by omega)
    rw [e] at h3
    refine wp_cond_false (h3.eval (t := 56) rfl) (wp_skip ?_)
    refine hN' mo a3 w3 (Int.le_refl _) hmo hm1 (fun h => by omega) (h3.weak ?_ (Nat.le_refl _) (Nat.le_refl _))
    rw [← wk_X5 _ _ _ _ _ _ _ _ _ _ m false]
    exact dropSt_wk _ _ _
  · have e : decide ((i : Int) > 0) = true := decide_eq_true (by omega)
    rw [e] at h3
    obtain ⟨hl1, hp⟩ := hlast (by omega)
    rcases hl with h0 | ⟨b, rfl, hcells⟩
    · omega
    have hbl : b.block < w0.heap.size := by
      have := World.cells?_block (hcells 0 (by omega)) (by omega)
      simpa [Addr.add] using this
    obtain ⟨t33, h33, s33⟩ := info_of i33
    obtain ⟨t2, h2', s2⟩ := info_of i2
    refine wp_cond_true (h3.eval (t := 56) rfl) (wp_seq (wp_region ?_))
    rw [n22]
    have hw : IntKind.i64.wrap ((i : Int) - 1) = ((i - 1 : Nat) : Int) := by rw [wrap_i64_id (by omega) (by omega)]; omega
    refine move_stand t22_0 (by omega) (len_X5 ..) h3 (v := .int .i64 m) (h3.eval (t := 13) rfl) _ fun a4 h4 => ?_
    refine move_stand t22_1 (by omega) (by rw [List.length_set]; exact len_X5 ..) h4 (v := .slice (some b) n0 c0) (h4.eval (t := 0) rfl) _ fun a5 h5 => ?_
    refine move_stand t22_2 (by omega) (by rw [List.length_set, List.length_set]; exact len_X5 ..) h5 (v := .int .i64 i) (h5.eval (t := 9) rfl) _ fun a6 h6 => ?_
    refine dec_stand t22_3 (by omega) (by rw [List.length_set, List.length_set, List.length_set]; exact len_X5 ..) h6 (i := i) (h6.eval (t := 59) rfl) _ fun a7 h7 => ?_
    refine move_stand t22_4 (by omega) (by rw [List.length_set, List.length_set, List.length_set, List.length_set]; exact len_X5 ..) h7 (v := .int .i64 k) (h7.eval (t := 12) rfl) _ fun a8 h8 => ?_
    refine index_stand t22_5 (by omega) (by rw [List.length_set, List.length_set, List.length_set, List.length_set, List.length_set]; exact len_X5 ..) un54 h33 h8 (b := b) (len := n0) (cap := c0) (i := i - 1) (ik := .i64) (h8.eval (t := 58) rfl) ((h8.eval (t := 60) (v := .int .i64 (IntKind.i64.wrap ((i : Int) - 1))) rfl).trans (by rw [hw])) (by omega) _ fun a9 h9 => ?_
    refine part_stand t22_6 (by omega) (by rw [List.length_set, List.length_set, List.length_set, List.length_set, List.length_set, List.length_set]; exact len_X5 ..) un33 h2' h9 (b := b.add ((i - 1) * t33.size)) (i := k) (ik := .i64) (h9.eval (t := 62) rfl) (h9.eval (t := 61) rfl) hk _ fun a10 h10 => ?_
    have hld := v_part hcells hbl h3.keep (j := i - 1) (k := k) (by omega) hk s33 s2
    refine load_stand t22_7 (by omega) (by rw [List.length_set, List.length_set, List.length_set, List.length_set, List.length_set, List.length_set, List.length_set]; exact len_X5 ..) h10 (h10.eval (t := 63) rfl) hld _ fun a11 h11 => ?_
    have hrun := hr22 stepV (.slice (some b) n0 c0) (.slice p1 n1 c1) n0 i tk mo d (l i) gp k m (prt (l (i - 1)) k) (.slice (some b) n0 c0) (.int .i64 i) (.int .i64 (IntKind.i64.wrap ((i : Int) - 1))) (.int .i64 k) (.pointer (some (b.add ((i - 1) * t33.size)))) (.pointer (some ((b.add ((i - 1) * t33.size)).add (k * t2.size))))
    have hg0 : (gp == 0) = false := beq_eq_false_iff_ne.2 (by omega)
    rw [hg0, cond_false] at hrun
    refine ops_stand (hdCall _) (qf := isSum (hdG stepV)) hdK _ hrun (fun j o hj => by simpa [Array.getElem?_toList] using hj) (ok_C ..) h11 [] fun a12 w12 h12 => ?_
    refine (runs_drop hdCall _ _ (hr23 stepV _ _ _ _ _ _ _ _ _ _ _)).stand (ok_U ..) h12 fun a13 w13 h13 => ?_
    obtain ⟨q1, q2, q3, q4, q5⟩ := most_ok hm1 hp hg.1 hg.2 hmo
    refine hN' (mostV mo (chgV m (prt (l (i - 1)) k) gp)) a13 w13 q1 q2 hm1 (fun _ => ?_) h13
    rw [hl1]
    exact ⟨⟨q4, q5⟩, q3⟩
/-- What the outer loop knows. -/
structure HdInv (l : Nat → V3) (i : Nat) (tk mo : Int) (d : Dr) : Prop where
  tk0 : 0 ≤ tk
  tk1 : tk ≤ 10000 * i
  mo0 : 0 ≤ mo
  mo1 : mo ≤ hdM
  on : d.on = decide (0 < i)
  tick : d.tick = tk
  last : 0 < i → d.last = l (i - 1) ∧ PartV (l (i - 1))
  rate : InV mo d.rate
theorem hd_inner (hl : VList w0 p0 n0 l) {i k : Nat} {tk mo : Int} {d : Dr} {gp : Int} (hi : i < n0) (h100 : n0 ≤ 100) (hk : k < 3) (hg : 10 ≤ gp ∧ gp ≤ 10000) (hmo : mo ≤ hdM) (hlast : 0 < i → d.last = l (i - 1) ∧ Part (prt (l (i - 1)) k))
    (h18 : hdRun stepV h18 (hdU (.slice p0 n0 c0) (.slice p1 n1 c1) n0 i tk mo d (l i) gp k []) hdK (12 :: 13 :: hdC) = some (.normal, hdU (.slice p0 n0 c0) (.slice p1 n1 c1) n0 i tk mo d (l i) gp k (hdX k (prt (l i) k))))
    {Q : Exit → Act → World → Prop} {act : Act} {w : World} {r : Nat}
    (hN' : ∀ mo' a' w', mo ≤ mo' → mo' ≤ hdM → Part (prt (l i) k) → (0 < i → (-mo' ≤ ratio3 (prt (l i) k - prt d.last k) 1000 gp ∧ ratio3 (prt (l i) k - prt d.last k) 1000 gp ≤ mo') ∧ 4096 ≤ mo') → Stand (fun k => k < w0.heap.size) w0 103 (hdU (.slice p0 n0 c0) (.slice p1 n1 c1) n0 i tk mo' d (l i) gp (k + 1 : Nat) []) a' w' → Code.rounds Try.prog hK Q r a' w')
    (hR : ∀ a' w', RT w0 a' w' → Q .ret a' w') (hst : Stand (fun k => k < w0.heap.size) w0 103 (hdU (.slice p0 n0 c0) (.slice p1 n1 c1) n0 i tk mo d (l i) gp k []) act w) : Code.rounds Try.prog hK Q (r + 1) act w := by
  rw [rounds_succ, hK_is]
  refine wp_seq ((runs_drop hdCall _ _ (hr17 stepV _ _ _ _ _ _ _ _ _ _)).stand (ok_U6 ..) hst fun a1 w1 h1 => ?_)
  have hb : decide ((k : Int) < 3) = true := decide_eq_true (by omega)
  rw [hb] at h1
  refine wp_seq (wp_cond_true (h1.eval (t := 46) rfl) (wp_skip ?_))
  have h2 : Stand (fun k => k < w0.heap.size) w0 103 (hdU (.slice p0 n0 c0) (.slice p1 n1 c1) n0 i tk mo d (l i) gp k []) a1 w1 := by
    refine h1.weak ?_ (Nat.le_refl _) (Nat.le_refl _)
    rw [← wk_U6 _ _ _ _ _ _ _ _ _ _ true]
    exact dropSt_wk _ _ _
  refine wp_seq (wp_block (hd_part (i := i) (k := k) hl hi h100 hk hg hmo hlast h18 (fun mo' a' w' m1 m2 m3 m4 h3 => ?_) (fun a' w' h => hR a' w' h) h2))
  refine (runs_drop hdCall _ _ (hr24 stepV _ _ _ _ _ _ _ _ _ _)).stand (ok_U ..) h3 fun a4 w4 h4 => ?_
  have hw : IntKind.i64.wrap ((k : Int) + 1) = ((k + 1 : Nat) : Int) := by rw [wrap_i64_id (by omega) (by omega)]; omega
  rw [hw] at h4
  exact hN' mo' a4 w4 m1 m2 m3 m4 h4
theorem hd_three (hl : VList w0 p0 n0 l) {i : Nat} {tk mo : Int} {d : Dr} {gp : Int} (hi : i < n0) (h100 : n0 ≤ 100) (hg : 10 ≤ gp ∧ gp ≤ 10000) (hmo : mo ≤ hdM) (hlast : 0 < i → d.last = l (i - 1) ∧ PartV (l (i - 1)))
    {Q : Exit → Act → World → Prop} {act : Act} {w : World}
    (hN' : ∀ mo' a' w', mo ≤ mo' → mo' ≤ hdM → PartV (l i) → (0 < i → InV mo' ⟨ratio3 ((l i).x - d.last.x) 1000 gp, ratio3 ((l i).y - d.last.y) 1000 gp, ratio3 ((l i).z - d.last.z) 1000 gp⟩) → Stand (fun k => k < w0.heap.size) w0 103 (hdU (.slice p0 n0 c0) (.slice p1 n1 c1) n0 i tk mo' d (l i) gp 3 []) a' w' → Q (.exit 2) a' w')
    (hR : ∀ a' w', RT w0 a' w' → Q .ret a' w') (hst : Stand (fun k => k < w0.heap.size) w0 103 (hdU (.slice p0 n0 c0) (.slice p1 n1 c1) n0 i tk mo d (l i) gp 0 []) act w) : Code.rounds Try.prog hK Q 4 act w := by
  refine hd_inner (k := 0) hl hi h100 (by omega) hg hmo (fun h => ⟨(hlast h).1, (hlast h).2.1⟩) (hr18_0 stepV _ _ _ _ _ _ _ _ _) (fun mo1 a1 w1 x1 x2 x3 x4 h1 => ?_) hR hst
  refine hd_inner (k := 1) hl hi h100 (by omega) hg x2 (fun h => ⟨(hlast h).1, (hlast h).2.2.1⟩) (hr18_1 stepV _ _ _ _ _ _ _ _ _) (fun mo2 a2 w2 y1 y2 y3 y4 h2 => ?_) hR h1
  refine hd_inner (k := 2) hl hi h100 (by omega) hg y2 (fun h => ⟨(hlast h).1, (hlast h).2.2.2⟩) (hr18_2 stepV _ _ _ _ _ _ _ _ _) (fun mo3 a3 w3 z1 z2 z3 z4 h3 => ?_) hR h2
  rw [rounds_succ, hK_is]
  refine wp_seq ((runs_drop hdCall _ _ (hr17 stepV _ _ _ _ _ _ _ _ _ _)).stand (ok_U6 ..) h3 fun a4 w4 h4 => ?_)
  refine wp_seq (wp_cond_false (h4.eval (t := 46) rfl) (wp_exit ?_))
  refine hN' mo3 a4 w4 (by omega) z2 ⟨x3, y3, z3⟩ (fun h => ?_) (h4.weak ?_ (Nat.le_refl _) (Nat.le_refl _))
  · have ex := (x4 h).1
    have ey := (y4 h).1
    have ez := (z4 h).1
    simp only [prt] at ex ey ez
    exact ⟨by dsimp only; omega, by dsimp only; omega, ez⟩
  · rw [← wk_U6 _ _ _ _ _ _ _ _ _ _ (decide ((3 : Int) < 3))]
    exact dropSt_wk _ _ _
theorem gap_ok (c : Int) : 10 ≤ gapV c ∧ gapV c ≤ 10000 := by unfold gapV; split <;> split <;> omega
theorem g_part {b : Addr} (hcells : ∀ i, i < n1 → w0.cells? 0 (b.add (i * 1)) 1 = some [.int .i64 (gs i)]) (hbl : b.block < w0.heap.size) {w : World} (hk : Keep (fun k => k < w0.heap.size) w0 w) {j s1 : Nat} (hj : j < n1) (e1 : s1 = 1) :
    (loadVar 3 (b.add (j * s1))).run Try.prog w = .ok (.int .i64 (gs j)) w := by
  subst e1
  refine run_loadScalar un3 rfl ?_
  have hc : w.cells? 0 (b.add (j * 1)) 1 = some [.int .i64 (gs j)] := cells_old hk (F := fun k => k < w0.heap.size) (by rw [add_block]; exact hbl) (hcells j hj)
  obtain ⟨_, _, hat⟩ := World.cells?_some hc
  have h0 := hat 0 (by omega)
  have e : (b.add j).add 0 = b.add j := by unfold Addr.add; rfl
  rw [Nat.mul_one, e] at h0
  rw [Nat.mul_one]
  simpa using h0
/-- The gap of the round. -/
theorem hd_gap (hgl : GList w0 p1 n1 gs) {i : Nat} {tk mo : Int} {d : Dr} {u : V3} {v : Value} {n : Int} {Q : Exit → Act → World → Prop} {act : Act} {w : World}
    (hN' : ∀ gp a' w', 10 ≤ gp ∧ gp ≤ 10000 → Stand (fun k => k < w0.heap.size) w0 103 (hdJ v (.slice p1 n1 c1) n i tk mo d u [(11, .int .i64 gp)]) a' w' → Q .normal a' w')
    (hst : Stand (fun k => k < w0.heap.size) w0 103 (hdJ v (.slice p1 n1 c1) n i tk mo d u [(11, .int .i64 1000)]) act w) : (Code.seq h13 (.cond (.tmp 34) (.region 14 o14 false) .skip)).wp Try.prog Q act w := by
  refine wp_seq ((runs_drop hdCall _ _ (hr13 stepV _ _ _ _ _ _ _ _ _ _)).stand (ok_J2 ..) hst fun a1 w1 h1 => ?_)
  by_cases hi : i < n1
  · have e : decide ((i : Int) < (n1 : Int)) = true := decide_eq_true (by omega)
    rw [e] at h1
    rcases hgl with h0 | ⟨b, rfl, hcells⟩
    · omega
    have hbl : b.block < w0.heap.size := by
      have := World.cells?_block (hcells 0 (by omega)) (by omega)
      simpa [Addr.add] using this
    obtain ⟨t3, h3', s3⟩ := info_of i3
    refine wp_cond_true (h1.eval (t := 34) rfl) (wp_region ?_)
    rw [n14]
    refine move_stand t14_0 (by omega) (len_J2 ..) h1 (v := .slice (some b) n1 c1) (h1.eval (t := 1) rfl) _ fun a4 h4 => ?_
    refine move_stand t14_1 (by omega) (by rw [List.length_set]; exact len_J2 ..) h4 (v := .int .i64 i) (h4.eval (t := 9) rfl) _ fun a5 h5 => ?_
    refine index_stand t14_2 (by omega) (by rw [List.length_set, List.length_set]; exact len_J2 ..) un55 h3' h5 (b := b) (len := n1) (cap := c1) (i := i) (ik := .i64) (h5.eval (t := 35) rfl) (h5.eval (t := 36) rfl) hi _ fun a6 h6 => ?_
    refine load_stand t14_3 (by omega) (by rw [List.length_set, List.length_set, List.length_set]; exact len_J2 ..) h6 (h6.eval (t := 37) rfl) (g_part hcells hbl h1.keep hi s3) _ fun a7 h7 => ?_
    refine ops_stand (hdCall _) (qf := isSum (hdG stepV)) hdK _ (hr14 stepV v (.slice (some b) n1 c1) n i tk mo d u (gs i) _ _ _) (fun j o hj => by simpa [Array.getElem?_toList] using hj) (ok_J1 ..) h7 [] fun a8 w8 h8 => ?_
    exact hN' _ a8 w8 (gap_ok _) h8
  · have e : decide ((i : Int) < (n1 : Int)) = false := decide_eq_false (by omega)
    rw [e] at h1
    refine wp_cond_false (h1.eval (t := 34) rfl) (wp_skip (hN' 1000 a1 w1 ⟨by omega, by omega⟩ (h1.weak ?_ (Nat.le_refl _) (Nat.le_refl _))))
    rw [← wk_J2 _ _ _ _ _ _ _ _ 1000 false]
    exact dropSt_wk _ _ _
/-- The field of the round. -/
theorem hd_field (hl : VList w0 p0 n0 l) {i : Nat} {tk mo : Int} {d : Dr} {g : Value} {b : Bool} (hi : i < n0) {Q : Exit → Act → World → Prop} {act : Act} {w : World}
    (hN' : ∀ a' w', Stand (fun k => k < w0.heap.size) w0 103 (hdJ (.slice p0 n0 c0) g n0 i tk mo d (l i) []) a' w' → Q .normal a' w')
    (hst : Stand (fun k => k < w0.heap.size) w0 103 (hdS10 (.slice p0 n0 c0) g n0 i tk mo d b) act w) : (Code.region 11 o11 false).wp Try.prog Q act w := by
  rcases hl with h0 | ⟨bb, rfl, hcells⟩
  · omega
  have hbl : bb.block < w0.heap.size := by
    have := World.cells?_block (hcells 0 (by omega)) (by omega)
    simpa [Addr.add] using this
  obtain ⟨t33, h33, s33⟩ := info_of i33
  refine wp_region ?_
  rw [n11]
  refine move_stand t11_0 (by omega) (len_S10 ..) hst (v := .int .i64 i) (hst.eval (t := 26) rfl) _ fun a4 h4 => ?_
  refine index_stand t11_1 (by omega) (by rw [List.length_set]; exact len_S10 ..) un54 h33 h4 (b := bb) (len := n0) (cap := c0) (i := i) (ik := .i64) (h4.eval (t := 24) rfl) (h4.eval (t := 26) rfl) hi _ fun a5 h5 => ?_
  have hld : (loadVar 33 (bb.add (i * t33.size))).run Try.prog w = .ok (Cod.enc (l i)) w := by
    have hc : w.cells? 0 (bb.add (i * t33.size)) t33.size = some (v3Cs (l i)) := by
      rw [s33]
      exact cells_old hst.keep (F := fun k => k < w0.heap.size) (by rw [add_block]; exact hbl) (hcells i hi)
    exact run_loadForeign un33 rfl h33 hc
  refine load_stand t11_2 (by omega) (by rw [List.length_set, List.length_set]; exact len_S10 ..) h5 (h5.eval (t := 29) rfl) hld _ fun a6 h6 => ?_
  exact ops_stand (hdCall _) (qf := isSum (hdG stepV)) hdK _ (hr11 stepV (.slice (some bb) n0 c0) g n0 i tk mo d b (l i) _) (fun j o hj => by simpa [Array.getElem?_toList] using hj) (ok_J0 ..) h6 [] fun a8 w8 h8 => hN' a8 w8 h8
/-- The round's end: one field more, and its rate. -/
theorem hd_end {i : Nat} {tk mo mo0 : Int} {d : Dr} {v g : Value} {n gp : Int} (hg : 10 ≤ gp ∧ gp ≤ 10000) (hi : i < 100) (hinv : HdInv l i tk mo0 d) (hmo : mo0 ≤ mo) (hM : mo ≤ hdM) (hu : PartV (l i))
    (hp : 0 < i → InV mo ⟨ratio3 ((l i).x - d.last.x) 1000 gp, ratio3 ((l i).y - d.last.y) 1000 gp, ratio3 ((l i).z - d.last.z) 1000 gp⟩) {Q : Exit → Act → World → Prop} {act : Act} {w : World}
    (hN' : ∀ d' a' w', HdInv l (i + 1) (tk + gp) mo d' → Stand (fun k => k < w0.heap.size) w0 103 (hdS v g n i (tk + gp) mo d') a' w' → Q .normal a' w')
    (hst : Stand (fun k => k < w0.heap.size) w0 103 (hdU v g n i (tk + gp) mo d (l i) gp 3 []) act w) : hW.wp Try.prog Q act w := by
  have hrun := hrW stepV v g n i (tk + gp) mo d (l i) gp
  have hpre : stepPre (d, l i, tk + gp, ()) = true := by
    have := hinv.tk0
    have := hinv.tk1
    unfold stepPre i64?
    dsimp only
    rw [hinv.tick, Bool.and_eq_true, decide_eq_true_eq, decide_eq_true_eq]
    omega
  have hmo0 := hinv.mo0
  have key : ∃ r, stepV false (d, l i, tk + gp, ()) = (⟨true, tk + gp, l i, r⟩, false) ∧ InV mo r := by
    by_cases h0 : i = 0
    · have hon : d.on = false := by rw [hinv.on]; exact decide_eq_false (by omega)
      have hz : V3.zero.x = 0 ∧ V3.zero.y = 0 ∧ V3.zero.z = 0 := ⟨rfl, rfl, rfl⟩
      exact ⟨V3.zero, step_first hu hon, by rw [hz.1]; omega, by rw [hz.2.1]; omega, by rw [hz.2.2]; omega⟩
    · have hon : d.on = true := by rw [hinv.on]; exact decide_eq_true (by omega)
      obtain ⟨e1, e2⟩ := hinv.last (by omega)
      exact step_next hu hon (by rw [e1]; exact e2) hg.1 hg.2 (by rw [hinv.tick]) hinv.rate hmo hM (hp (by omega))
  obtain ⟨r, hr, ⟨x1, x2⟩, ⟨y1, y2⟩, ⟨z1, z2⟩⟩ := key
  rw [hpre, cond_true, hr] at hrun
  unfold hdM at hM
  dsimp only at hrun
  rw [wrap_i64_id (z := 0 - mo) (by omega) (by omega), decide_eq_false (p := r.x > mo) (by omega), decide_eq_false (p := r.x < 0 - mo) (by omega), decide_eq_false (p := r.y > mo) (by omega), decide_eq_false (p := r.y < 0 - mo) (by omega), decide_eq_false (p := r.z > mo) (by omega), decide_eq_false (p := r.z < 0 - mo) (by omega)] at hrun
  simp only [cond_false] at hrun
  refine (runs_drop hdCall _ _ hrun).stand (ok_Sf ..) hst fun a1 w1 h1 => ?_
  have h2 := h1.cut (lo := hdL) (hi := hdH) (cl_Sf ..)
  rw [cut_Sf] at h2
  have := hinv.tk0
  have := hinv.tk1
  refine hN' _ a1 w1 ⟨by omega, by omega, by omega, hM, by simp, rfl, fun _ => ⟨rfl, ?_⟩, ⟨x1, x2⟩, ⟨y1, y2⟩, ⟨z1, z2⟩⟩ h2
  exact hu
theorem hd_round (hl : VList w0 p0 n0 l) (hgl : GList w0 p1 n1 gs) (h100 : n0 ≤ 100) {Q : Exit → Act → World → Prop}
    (hQ : ∀ a' w' i tk mo d, Stand (fun k => k < w0.heap.size) w0 103 (hdS (.slice p0 n0 c0) (.slice p1 n1 c1) n0 i tk mo d) a' w' → Q (.exit 0) a' w') (hR : ∀ a' w', RT w0 a' w' → Q .ret a' w') :
    ∀ (r i : Nat) (tk mo : Int) (d : Dr) (act : Act) (w : World), i + r = n0 → HdInv l i tk mo d → Stand (fun k => k < w0.heap.size) w0 103 (hdS (.slice p0 n0 c0) (.slice p1 n1 c1) n0 i tk mo d) act w → Code.rounds Try.prog hL Q (r + 1) act w := by
  intro r
  induction r with
  | zero =>
    intro i tk mo d act w hi _ hst
    rw [rounds_succ, hL_is]
    refine wp_seq ((runs_drop hdCall _ _ (hr10 stepV _ _ _ _ _ _ _)).stand (ok_S10 ..) hst fun a1 w1 h1 => ?_)
    have hb : decide ((i : Int) < (n0 : Int)) = false := decide_eq_false (by omega)
    rw [hb] at h1
    refine wp_seq (wp_cond_false (h1.eval (t := 27) rfl) (wp_exit ?_))
    refine hQ a1 w1 i tk mo d (h1.weak ?_ (Nat.le_refl _) (Nat.le_refl _))
    rw [← wk_S10 _ _ _ _ _ _ _ false]
    exact dropSt_wk _ _ _
  | succ r ih =>
    intro i tk mo d act w hi hinv hst
    rw [rounds_succ, hL_is]
    refine wp_seq ((runs_drop hdCall _ _ (hr10 stepV _ _ _ _ _ _ _)).stand (ok_S10 ..) hst fun a1 w1 h1 => ?_)
    have hb : decide ((i : Int) < (n0 : Int)) = true := decide_eq_true (by omega)
    rw [hb] at h1
    refine wp_seq (wp_cond_true (h1.eval (t := 27) rfl) (wp_skip ?_))
    refine wp_seq (wp_block (wp_seq (hd_field hl (by omega) (fun a2 w2 h2 => ?_) h1)))
    refine wp_seq ((runs_drop hdCall _ _ (hr12 stepV _ _ _ _ _ _ _ _)).stand (ok_J1 ..) h2 fun a3 w3 h3 => ?_)
    refine wp_seq (hd_gap hgl (fun gp a4 w4 hg h4 => ?_) h3)
    refine wp_seq ((runs_drop hdCall _ _ (hr15 stepV _ _ _ _ _ _ _ _ _)).stand (ok_J1 ..) h4 fun a5 w5 h5 => ?_)
    have t0 := hinv.tk0
    have t1 := hinv.tk1
    rw [wrap_i64_id (z := tk + gp) (by omega) (by omega)] at h5
    refine wp_seq (wp_seq ((runs_drop hdCall _ _ (hr16 stepV _ _ _ _ _ _ _ _ _)).stand (ok_U (k := 0) ..) h5 fun a6 w6 h6 => ?_))
    refine wp_block (wp_loop_rounds 4 (hd_three hl (by omega) h100 hg hinv.mo1 hinv.last (fun mo' a7 w7 m1 m2 hu hp h7 => ?_) (fun a' w' h => hR a' w' h) h6))
    refine hd_end hg (by omega) hinv m1 m2 hu hp (fun d' a8 w8 hinv' h8 => ?_) h7
    refine (runs_drop hdCall _ _ (hr32 stepV _ _ _ _ _ _ _)).stand (ok_S ..) h8 fun a9 w9 h9 => ?_
    have hw : IntKind.i64.wrap ((i : Int) + 1) = ((i + 1 : Nat) : Int) := by rw [wrap_i64_id (by omega) (by omega)]; omega
    rw [hw] at h9
    exact ih (i + 1) _ _ _ a9 w9 (by omega) hinv' h9
theorem BdotHolds_run (hl : VList w0 p0 n0 l) (hgl : GList w0 p1 n1 gs) : Calls Try.prog 12 #[.slice p0 n0 c0, .slice p1 n1 c1] w0 fun e w' => e = .returned (.bool true) ∧ RowKit.Below w0.heap.size w0 w' := by
  refine calls_of_wp Try.func12 hC_is ?_
  have hst := Stand.start (N := 103) [.slice p0 n0 c0, .slice p1 n1 c1] w0 4096 hdH hdT (by simp)
  have fin : ∀ a' w', RT w0 a' w' → bodyPost Try.prog Try.f12 (fun e w' => e = .returned (.bool true) ∧ RowKit.Below w0.heap.size w0 w') .ret a' w' := fun a' w' h => bodyPost_ret h.1 h.2.1 ⟨rfl, h.2.2.below⟩
  refine wp_seq ((runs_drop hdCall _ _ (hr0 stepV _ _)).stand (ok_A0 ..) hst fun a1 w1 h1 => ?_)
  refine wp_seq ((runs_drop hdCall _ _ (hr1 stepV _ _)).stand (ok_A0 ..) h1 fun a2 w2 h2 => ?_)
  have hrun := hr3 stepV p0 n0 c0 (.slice p1 n1 c1)
  by_cases h100 : n0 ≤ 100
  · rw [decide_eq_false (p := (n0 : Int) > 100) (by omega), cond_false] at hrun
    refine wp_seq ((runs_drop hdCall _ _ hrun).stand (ok_A0 ..) h2 fun a3 w3 h3 => ?_)
    refine wp_seq ((runs_drop hdCall _ _ (hr5 stepV _ _)).stand (ok_A5 ..) h3 fun a4 w4 h4 => ?_)
    refine wp_seq ((runs_drop hdCall _ _ (hr6 stepV _ _)).stand (ok_A6 ..) h4 fun a5 w5 h5 => ?_)
    refine wp_seq ((runs_drop hdCall _ _ (hr7 stepV _ _)).stand (ok_A7 ..) h5 fun a6 w6 h6 => ?_)
    refine wp_seq ((runs_drop hdCall _ _ (hr8 stepV _ _)).stand (ok_A8 ..) h6 fun a7 w7 h7 => ?_)
    refine wp_seq (wp_seq ((runs_drop hdCall _ _ (hr9 stepV _ _ _ _)).stand (ok_S ..) h7 fun a8 w8 h8 => ?_))
    refine wp_block (wp_loop_rounds (n0 + 1) (hd_round hl hgl h100 (fun a' w' i tk mo d hS => ?_) (fun a' w' h => ?_) n0 0 0 0 Dr.zero a8 w8 (by omega) ?_ h8))
    · exact (runs_drop hdCall _ _ (hrE stepV _ _ _ _ _ _ _)).stand ok_E hS fun a9 w9 h9 => fin a9 w9 (h9.results res_E)
    · exact fin a' w' h
    · exact ⟨by decide, by decide, by decide, by decide, rfl, rfl, fun h => by omega, ⟨by decide, by decide⟩, ⟨by decide, by decide⟩, ⟨by decide, by decide⟩⟩
  · rw [decide_eq_true (p := (n0 : Int) > 100) (by omega), cond_true] at hrun
    exact wp_seq ((runs_drop hdCall _ _ hrun).stand (ok_A4 ..) h2 fun a3 w3 h3 => fin a3 w3 (h3.results (res_A4 ..)))
end
theorem BdotHolds_calls (p0 : Option Addr) (n0 c0 : Nat) (p1 : Option Addr) (n1 c1 : Nat) (w : World) (r0 : RowsAt w [.int .i64, .int .i64, .int .i64] p0 n0 c0) (r1 : RowsAt w [.int .i64] p1 n1 c1) :
    Calls Try.prog 12 #[.slice p0 n0 c0, .slice p1 n1 c1] w fun e w' => e = .returned (.bool true) ∧ RowKit.Below w.heap.size w w' := by
  have hf : ∃ f : Nat → V3, VList w p0 n0 f := by
    obtain ⟨_, _, hr⟩ := r0
    rcases hr with h0 | ⟨b, rfl, hc⟩
    · exact ⟨fun _ => V3.zero, .inl h0⟩
    · have : ∀ i, ∃ s : V3, i < n0 → w.cells? 0 (b.add (i * 3)) 3 = some (v3Cs s) := by
        intro i
        by_cases hi : i < n0
        · obtain ⟨cs, hl, h1⟩ := hc i hi
          simp only [Leafs] at hl
          obtain ⟨a, _, rfl, _, b', _, rfl, _, c, _, rfl, _, rfl⟩ := hl
          exact ⟨⟨a, b', c⟩, fun _ => h1⟩
        · exact ⟨V3.zero, fun h => absurd h hi⟩
      exact ⟨fun i => Classical.choose (this i), .inr ⟨b, rfl, fun i hi => Classical.choose_spec (this i) hi⟩⟩
  have hg : ∃ f : Nat → Int, GList w p1 n1 f := by
    obtain ⟨_, _, hr⟩ := r1
    rcases hr with h0 | ⟨b, rfl, hc⟩
    · exact ⟨fun _ => 0, .inl h0⟩
    · have : ∀ i, ∃ s : Int, i < n1 → w.cells? 0 (b.add (i * 1)) 1 = some [.int .i64 s] := by
        intro i
        by_cases hi : i < n1
        · obtain ⟨cs, hl, h1⟩ := hc i hi
          simp only [Leafs] at hl
          obtain ⟨a, _, rfl, _, rfl⟩ := hl
          exact ⟨a, fun _ => h1⟩
        · exact ⟨0, fun h => absurd h hi⟩
      exact ⟨fun i => Classical.choose (this i), .inr ⟨b, rfl, fun i hi => Classical.choose_spec (this i) hi⟩⟩
  obtain ⟨f, hf⟩ := hf
  obtain ⟨g, hg⟩ := hg
  exact BdotHolds_run hf hg
end Go.Ab
