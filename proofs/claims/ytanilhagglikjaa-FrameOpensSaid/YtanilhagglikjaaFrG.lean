/- A part of the proof of 'FrameOpens': lemmas, no statement of their own; no condition. -/
import Derived.Test.YtanilhagglikjaaFrE
import Derived.Test.YtanilhagglikjaaSuC
/- The document's sum; FrameSums. -/
namespace Go.Ab
open Go Go.Proofs
theorem shl1 (r : Nat) : IntKind.u16.wrap ((r : Int) * 2 ^ 1) = ((r * 2 % 65536 : Nat) : Int) := by
  have e : (r : Int) * 2 ^ 1 = ((r * 2 : Nat) : Int) := by omega
  rw [e, wrap16]
def shN : Nat → (Nat → Nat)
  | 0 => fun r => r
  | n + 1 => fun r => shN n (sh1 r)
theorem shN8 (r : Nat) : shN 8 r = sh8 r := rfl
theorem shN_lt : ∀ (n r : Nat), r < 65536 → shN n r < 65536
  | 0, _, h => h
  | n + 1, _, h => shN_lt n _ (sh1_lt h)
/-- Eight bits. -/
theorem bit_round {w0 : World} {F : Nat → Prop} {s : ByteArray} {i : Int} {Q : Exit → Act → World → Prop} :
    ∀ (m k r : Nat) (act : Act) (w : World), k + m = 8 → r < 65536 → (∀ a' w', Stand F w0 32 (gS (gV i (shN m r : Nat)) s) a' w' → Q (.exit 2) a' w') → Stand F w0 32 (gS (gW i r k) s) act w → Code.rounds Try.prog gK Q (m + 1) act w := by
  intro m
  induction m with
  | zero =>
    intro k r act w hk hr hQ hst
    rw [rounds_succ, gK_is]
    refine wp_seq (wp_seq ((runs_drop frCall _ _ (gr7 _ _ _ _)).stand (oG5 ..) hst fun a1 w1 h1 => ?_))
    have hb : decide ((k : Int) < 8) = false := decide_eq_false (by omega)
    rw [hb] at h1
    refine wp_cond_false (h1.eval (t := 21) rfl) (wp_exit ?_)
    have h2 : Stand F w0 32 (gS (gW i r k) s) a1 w1 := by
      refine h1.weak ?_ (Nat.le_refl _) (Nat.le_refl _)
      rw [← wG5 _ _ _ _ false]
      exact dropSt_wk _ _ _
    refine hQ a1 w1 (h2.weak ?_ (Nat.le_refl _) (Nat.le_refl _))
    show Wk (gS (gV i r) s).u _
    rw [← wG6 _ _ _ k]
    exact dropSt_wk _ _ _
  | succ m ih =>
    intro k r act w hk hr hQ hst
    rw [rounds_succ, gK_is]
    refine wp_seq (wp_seq ((runs_drop frCall _ _ (gr7 _ _ _ _)).stand (oG5 ..) hst fun a1 w1 h1 => ?_))
    have hb : decide ((k : Int) < 8) = true := decide_eq_true (by omega)
    rw [hb] at h1
    refine wp_cond_true (h1.eval (t := 21) rfl) (wp_skip ?_)
    have h2 : Stand F w0 32 (gS (gW i r k) s) a1 w1 := by
      refine h1.weak ?_ (Nat.le_refl _) (Nat.le_refl _)
      rw [← wG5 _ _ _ _ true]
      exact dropSt_wk _ _ _
    have e : (bif decide ((r : Int) ≥ 32768) then some (Ex.normal, gS (gW i (xorV .u16 (IntKind.u16.wrap ((r : Int) * 2 ^ 1)) 4129) k) s) else some (.normal, gS (gW i (IntKind.u16.wrap ((r : Int) * 2 ^ 1)) k) s)) = some (.normal, gS (gW i (sh1 r : Nat) k) s) := by
      rw [shl1]
      by_cases h : (r : Int) ≥ 32768
      · rw [decide_eq_true h, cond_true, show (4129 : Int) = ((4129 : Nat) : Int) from rfl, xor16 (by omega) (by omega)]
        have : r / 32768 = 1 := by omega
        unfold sh1
        rw [this]
      · rw [decide_eq_false h, cond_false]
        have : r / 32768 = 0 := by omega
        unfold sh1
        rw [this, Nat.zero_mul, Nat.xor_zero]
    refine wp_seq (wp_block ((runs_drop frCall _ _ ((gr9 s i r k).trans e)).stand (oG4 ..) h2 fun a3 w3 h3 => ?_))
    refine (runs_drop frCall _ _ (gr8 _ _ _ _)).stand (oG4 ..) h3 fun a4 w4 h4 => ?_
    have hw : IntKind.i64.wrap ((k : Int) + 1) = ((k + 1 : Nat) : Int) := by rw [wrapM]; omega
    rw [hw] at h4
    exact ih (k + 1) (sh1 r) a4 w4 (by omega) (sh1_lt hr) hQ h4
theorem ref_round {w0 : World} {F : Nat → Prop} {s : ByteArray} (hsz : s.size ≤ 4611686018427387904) {Q : Exit → Act → World → Prop} (hQ : ∀ a' w', Stand F w0 32 (gS (gV s.size (crcF s.data.toList 65535 : Nat)) s) a' w' → Q (.exit 0) a' w') :
    ∀ (m i : Nat) (act : Act) (w : World), i + m = s.size → Stand F w0 32 (gS (gV i (crcF (s.data.toList.take i) 65535 : Nat)) s) act w → Code.rounds Try.prog gL Q (m + 1) act w := by
  have hlen : s.data.toList.length = s.size := rfl
  intro m
  induction m with
  | zero =>
    intro i act w hi hst
    rw [rounds_succ, gL_is]
    refine wp_seq (wp_seq ((runs_drop frCall _ _ (gr3 _ _ _)).stand (oG3 ..) hst fun a1 w1 h1 => ?_))
    have hb : decide ((i : Int) < (s.size : Int)) = false := decide_eq_false (by omega)
    rw [hb] at h1
    refine wp_cond_false (h1.eval (t := 10) rfl) (wp_exit ?_)
    have hi' : i = s.size := by omega
    subst hi'
    rw [← hlen, List.take_length] at h1
    refine hQ a1 w1 (h1.weak ?_ (Nat.le_refl _) (Nat.le_refl _))
    rw [← wG3 _ _ _ false]
    exact dropSt_wk _ _ _
  | succ m ih =>
    intro i act w hi hst
    rw [rounds_succ, gL_is]
    refine wp_seq (wp_seq ((runs_drop frCall _ _ (gr3 _ _ _)).stand (oG3 ..) hst fun a1 w1 h1 => ?_))
    have hb : decide ((i : Int) < (s.size : Int)) = true := decide_eq_true (by omega)
    rw [hb] at h1
    refine wp_cond_true (h1.eval (t := 10) rfl) (wp_skip ?_)
    have h2 : Stand F w0 32 (gS (gV i (crcF (s.data.toList.take i) 65535 : Nat)) s) a1 w1 := by
      refine h1.weak ?_ (Nat.le_refl _) (Nat.le_refl _)
      rw [← wG3 _ _ _ true]
      exact dropSt_wk _ _ _
    generalize hr : crcF (s.data.toList.take i) 65535 = r at h2
    have hrl : r < 65536 := by rw [← hr]; exact crcF_lt _ _ (by omega)
    generalize hcc : (s.data.toList.getD i 0) = c
    have hcl : c.toNat < 256 := c.toNat_lt
    refine wp_seq (wp_block (wp_seq (wp_region ?_)))
    rw [k5_n]
    have hil : i < s.size := by omega
    refine move_stand k5_0 (by omega) (lG2 ..) h2 (v := .int .u16 r) (h2.eval (t := 3) rfl) _ fun a3 h3 => ?_
    refine move_stand k5_1 (by omega) (by rw [List.length_set]; exact lG2 ..) h3 (v := .string s) (h3.eval (t := 0) rfl) _ fun a4 h4 => ?_
    refine move_stand k5_2 (by omega) (by rw [List.length_set, List.length_set]; exact lG2 ..) h4 (v := .int .i64 i) (h4.eval (t := 4) rfl) _ fun a5 h5 => ?_
    refine op_here k5_3 (by omega) (by rw [List.length_set, List.length_set, List.length_set]; exact lG2 ..) h5 (v := .int .u8 c.toNat) (fun o ho => ?_) _ fun a6 h6 => ?_
    · have hx : a5.eval (.tmp 14) = .string s := h5.eval (t := 14) rfl
      have hy : a5.eval (.tmp 15) = .int .i64 i := h5.eval (t := 15) rfl
      simp only [execOp, ho, hx, hy, Sem.run_bind, run_index_string (i := i) v9 hil, Result.andThen_ok, Sem.run_pure, hcc]
    refine ops_stand (frCall _) (qf := isSum ([] : Gam)) [] _ (gr5 s i r c.toNat (.string s) (.int .i64 i)) (fun _ _ hj => drop_at hj) (oG2 ..) h6 [] fun a7 w7 h7 => ?_
    have e : xorV .u16 (r : Int) (IntKind.u16.wrap (IntKind.u16.wrap (c.toNat : Int) * 2 ^ 8)) = ((r ^^^ (c.toNat * 256) : Nat) : Int) := by
      rw [wrap16, Nat.mod_eq_of_lt (by omega), shl8, Nat.mod_eq_of_lt (by omega), xor16 hrl (by omega)]
    rw [e] at h7
    have hxl : (r ^^^ (c.toNat * 256)) < 65536 := Nat.xor_lt_two_pow (n := 16) (by omega) (by omega)
    refine wp_seq ((runs_drop frCall _ _ (gr6 _ _ _)).stand (oG4 ..) h7 fun a8 w8 h8 => ?_)
    refine wp_block (wp_loop_rounds 9 (bit_round 8 0 _ a8 w8 rfl hxl (fun a9 w9 h9 => ?_) h8))
    have e3 : shN 8 (r ^^^ (c.toNat * 256)) = crcF (s.data.toList.take (i + 1)) 65535 := by
      rw [shN8, byte_at (by omega), crcF_snoc, hr, hcc]
      rfl
    rw [e3] at h9
    refine (runs_drop frCall _ _ (gr4 _ _ _)).stand (oG2 ..) h9 fun a10 w10 h10 => ?_
    have hw : IntKind.i64.wrap ((i : Int) + 1) = ((i + 1 : Nat) : Int) := by rw [wrapM]; omega
    rw [hw] at h10
    exact ih (i + 1) a10 w10 (by omega) h10
theorem ref_calls (s : ByteArray) (hsz : s.size ≤ 4611686018427387904) (w : World) : Calls Try.prog 10 #[.string s] w fun e w' => ∃ v, e = .returned v ∧ RowKit.Below w.heap.size w w' ∧ v = .int .u16 (crcF s.data.toList 65535 : Nat) := by
  refine calls_of_wp f10_is gC_is ?_
  have hst := Stand.start (N := 32) [.string s] w 4096 frH frT (by simp)
  refine wp_seq ((runs_drop frCall _ _ (gr0 s)).stand (oG0 s) hst fun a1 w1 h1 => ?_)
  refine wp_seq ((runs_drop frCall _ _ (gr1 s)).stand (oG1 ..) h1 fun a2 w2 h2 => ?_)
  refine wp_seq (wp_seq ((runs_drop frCall _ _ (gr2 s)).stand (oG2 ..) h2 fun a3 w3 h3 => ?_))
  refine wp_block (wp_loop_rounds (s.size + 1) (ref_round hsz (fun a8 w8 h8 => ?_) s.size 0 a3 w3 (by omega) h3))
  refine (runs_drop frCall _ _ (grE _ _ _)).stand (oGE ..) h8 fun a9 w9 h9 => ?_
  obtain ⟨y1, y2, y3⟩ := h9.results (P := Try.prog) (fn := Try.f10) (gRes _)
  exact bodyPost_ret y1 y2 ⟨_, rfl, y3.below, rfl⟩
def szOk (p : ByteArray × Unit) : Bool := decide (p.1.size ≤ 4611686018427387904)
def sumN (p : ByteArray × Unit) : N16 := ⟨crcF p.1.data.toList 65535⟩
theorem okSum : SumOk Try.prog 9 (S0w szOk sumN) := S0w_of fun a w h => sum_calls a.1 (of_decide_eq_true h) w
theorem okRef : SumOk Try.prog 10 (S0w szOk sumN) := S0w_of fun a w h => ref_calls a.1 (of_decide_eq_true h) w
end Go.Ab
