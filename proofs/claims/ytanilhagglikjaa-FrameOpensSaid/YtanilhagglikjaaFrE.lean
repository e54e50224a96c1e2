/- A part of the proof of 'FrameOpens': lemmas, no statement of their own; no condition. -/
import Derived.Test.YtanilhagglikjaaFrC
/- The sums' walks. -/
namespace Go.Ab
open Go Go.Proofs
theorem f9_is : Try.prog.funcs[9]? = some Try.f9 := by kernel_rfl
theorem f10_is : Try.prog.funcs[10]? = some Try.f10 := by kernel_rfl
theorem f19_on : (Try.f19.body.isSome && !Try.f19.name == "runtime.NumGoroutine") = true := by kernel_rfl
def cTab : Call := { callee := .value (.func 19), args := #[], argTypes := #[] }
theorem q1_0 : sigOf pO1 0 = some (.call cTab, some 7, true) := by kernel_rfl
theorem q1_n : List.range pO1.size = 0 :: ((List.range (pO1.toList.drop 1).length).map (1 + ·) ++ []) := by kernel_rfl
theorem q3_0 : sigOf pO3 0 = some (.move (.tmp 0), some 8, true) := by kernel_rfl
theorem q3_1 : sigOf pO3 1 = some (.convert 9 38 (.tmp 8), some 9, true) := by kernel_rfl
theorem q3_n : List.range pO3.size = 0 :: 1 :: ((List.range (pO3.toList.drop 2).length).map (2 + ·) ++ []) := by kernel_rfl
theorem q5_0 : sigOf pO5 0 = some (.indexAddr 38 (.tmp 9) (.tmp 11), some 13, true) := by kernel_rfl
theorem q5_1 : sigOf pO5 1 = some (.load 5 (.tmp 13), some 14, true) := by kernel_rfl
theorem q5_n : List.range pO5.size = 0 :: 1 :: ((List.range (pO5.toList.drop 2).length).map (2 + ·) ++ []) := by kernel_rfl
theorem q6_7 : sigOf pO6 7 = some (.indexAddr 40 (.tmp 3) (.tmp 21), some 22, true) := by kernel_rfl
theorem q6_8 : sigOf pO6 8 = some (.load 22 (.tmp 22), some 23, true) := by kernel_rfl
theorem q6_n : List.range pO6.size = (List.range (pO6.toList.take 7).length).map (0 + ·) ++ (7 :: 8 :: ((List.range (pO6.toList.drop 9).length).map (9 + ·) ++ [])) := by kernel_rfl
theorem k5_0 : sigOf gO5 0 = some (.move (.tmp 3), some 13, true) := by kernel_rfl
theorem k5_1 : sigOf gO5 1 = some (.move (.tmp 0), some 14, true) := by kernel_rfl
theorem k5_2 : sigOf gO5 2 = some (.move (.tmp 4), some 15, true) := by kernel_rfl
theorem k5_3 : sigOf gO5 3 = some (.index 9 (.tmp 14) (.tmp 15), some 16, true) := by kernel_rfl
theorem k5_n : List.range gO5.size = 0 :: 1 :: 2 :: 3 :: ((List.range (gO5.toList.drop 4).length).map (4 + ·) ++ []) := by kernel_rfl
theorem v9 : Try.prog.underlying 9 = some .string := by kernel_rfl
theorem v38 : Try.prog.underlying 38 = some (.slice 5) := by kernel_rfl
theorem v5 : Try.prog.underlying 5 = some (.int .u8) := by kernel_rfl
theorem v40 : Try.prog.underlying 40 = some (.array 256 22) := by kernel_rfl
theorem v22 : Try.prog.underlying 22 = some (.int .u16) := by kernel_rfl
theorem j5 : (Try.prog.info? 5).map (·.size) = some 1 := by kernel_rfl
theorem j22 : (Try.prog.info? 22).map (·.size) = some 1 := by kernel_rfl
theorem drop_at {ops : Array Oper} {k j : Nat} {o : Oper} (h : (ops.toList.drop k)[j]? = some o) : ops[k + j]? = some o := by
  rw [List.getElem?_drop, Array.getElem?_toList] at h
  exact h
theorem take_at {ops : Array Oper} {k j : Nat} {o : Oper} (h : (ops.toList.take k)[j]? = some o) : ops[0 + j]? = some o := by
  rw [List.getElem?_take] at h
  split at h
  · rw [Array.getElem?_toList] at h
    rw [Nat.zero_add]
    exact h
  · cases h
theorem mid_at {ops : Array Oper} {k n j : Nat} {o : Oper} (h : ((ops.toList.drop k).take n)[j]? = some o) : ops[k + j]? = some o := by
  rw [List.getElem?_take] at h
  split at h
  · rw [List.getElem?_drop, Array.getElem?_toList] at h
    exact h
  · cases h
theorem info_of {t n : Nat} (h : (Try.prog.info? t).map (·.size) = some n) : ∃ ti, Try.prog.info? t = some ti ∧ ti.size = n := by
  cases hi : Try.prog.info? t with
  | none => rw [hi] at h; cases h
  | some ti => rw [hi] at h; exact ⟨ti, rfl, by simpa using h⟩
section
variable (s : ByteArray) (v : Value) (n i r k c x q : Int) (b : Bool)
theorem oP0 : okNamed (pS0 s) = true := by kernel_rfl
theorem oP1 : okNamed (pS1 s) = true := by kernel_rfl
theorem oP2 : okNamed (pS2 s r) = true := by kernel_rfl
theorem oP : okNamed (pS [] v n i r) = true := by kernel_rfl
theorem oP12 : okNamed (pS [(12, .bool b)] v n i r) = true := by kernel_rfl
theorem oP6 : okNamed (pS [(6, .int .u8 c)] v n i r) = true := by kernel_rfl
theorem oP62 : okNamed (pS [(16, .int .u16 x), (21, .int .u8 q)] v n i r) = true := by kernel_rfl
theorem oPE : okNamed (pSE r) = true := by kernel_rfl
theorem wP12 : dropSt [4096] (others 27 pB) (pS [(12, .bool b)] v n i r) = pS [] v n i r := by kernel_rfl
theorem lP0 : (pS0 s).tmps.length = 27 := by kernel_rfl
theorem lP2 : (pS2 s r).tmps.length = 27 := by kernel_rfl
theorem lP : (pS [] v n i r).tmps.length = 27 := by kernel_rfl
theorem lP62 : (pS [(16, .int .u16 x), (21, .int .u8 q)] v n i r).tmps.length = 27 := by kernel_rfl
theorem hP62 : hget (pS [(16, .int .u16 x), (21, .int .u8 q)] v n i r).heap 4096 = some (.row 40 ((u16s tabN).map .val)) := by kernel_rfl
theorem oG0 : okNamed (gS [] s) = true := by kernel_rfl
theorem oG1 : okNamed (gS [(3, .int .u16 r)] s) = true := by kernel_rfl
theorem oG2 : okNamed (gS (gV i r) s) = true := by kernel_rfl
theorem oG3 : okNamed (gS (gV i r ++ [(10, .bool b)]) s) = true := by kernel_rfl
theorem oG4 : okNamed (gS (gW i r k) s) = true := by kernel_rfl
theorem oG5 : okNamed (gS (gW i r k ++ [(21, .bool b)]) s) = true := by kernel_rfl
theorem oGE : okNamed (gSE r) = true := by kernel_rfl
theorem wG3 : dropSt [] (others 32 [0, 3, 4]) (gS (gV i r ++ [(10, .bool b)]) s) = gS (gV i r) s := by kernel_rfl
theorem wG5 : dropSt [] (others 32 [0, 3, 4, 5]) (gS (gW i r k ++ [(21, .bool b)]) s) = gS (gW i r k) s := by kernel_rfl
theorem wG6 : dropSt [] (others 32 [0, 3, 4]) (gS (gW i r k) s) = gS (gV i r) s := by kernel_rfl
theorem lG2 : (gS (gV i r) s).tmps.length = 32 := by kernel_rfl
end
/-- What was kept of before, behind a change elsewhere. -/
theorem Keep.wide {F : Nat → Prop} {w0 w w' w'' : World} (h : Keep F w0 w) (h1 : w'.os = w.os) (h2 : w'.tape = w.tape) (h3 : w'.output = w.output) (hg : w.heap.size ≤ w'.heap.size) (hs : ∀ j, F j → w'.heap[j]? = w.heap[j]?) (k : Keep (Wide F w w') w' w'') : Keep F w0 w'' :=
  ⟨k.os.trans (h1.trans h.os), k.tape.trans (h2.trans h.tape), k.output.trans (h3.trans h.output), Nat.le_trans h.grown (Nat.le_trans hg k.grown), fun x hx => ⟨(h.frame x hx).1, (k.frame x (.inl hx)).2.trans ((hs x hx).trans (h.frame x hx).2)⟩⟩
theorem tab_at {j : Nat} (hj : j < 256) : tabN.getD j 0 = sh8 (j * 256) ∧ ((u16s tabN).map AV.val)[j]? = some (.val (.int .u16 (tabN.getD j 0 : Nat))) := by
  have e : (nums 0 256)[j]? = some j := by
    have hl : (nums 0 256).length = 256 := by kernel_rfl
    have := List.getElem?_eq_getElem (l := nums 0 256) (i := j) (by omega)
    obtain ⟨h1, _⟩ := nums_get 256 0 j _ this
    rw [this, h1, Nat.zero_add]
  have h : tabN[j]? = some (sh8 (j * 256)) := by unfold tabN; rw [List.getElem?_map, e]; rfl
  have h2 : tabN.getD j 0 = sh8 (j * 256) := by rw [List.getD_eq_getElem?_getD, h]; rfl
  refine ⟨h2, ?_⟩
  rw [h2]
  unfold u16s
  rw [List.getElem?_map, List.getElem?_map, h]
  rfl
theorem byte_at {l : List UInt8} {i : Nat} (hi : i < l.length) : l.take (i + 1) = l.take i ++ [l.getD i 0] := by
  rw [List.take_add_one, List.getElem?_eq_getElem hi, List.getD_eq_getElem?_getD, List.getElem?_eq_getElem hi]
  rfl
theorem crcF_snoc (l : List UInt8) (b : UInt8) (r : Nat) : crcF (l ++ [b]) r = stR (crcF l r) b.toNat := by unfold crcF; rw [List.foldl_append]; rfl
theorem bytesWorld_kept (w : World) (e : TypeId) (s : ByteArray) : (Lib.bytesWorld w e s).os = w.os ∧ (Lib.bytesWorld w e s).tape = w.tape ∧ (Lib.bytesWorld w e s).output = w.output := ⟨rfl, rfl, rfl⟩
theorem shl8 (r : Nat) : IntKind.u16.wrap ((r : Int) * 2 ^ 8) = ((r * 256 % 65536 : Nat) : Int) := by
  have e : (r : Int) * 2 ^ 8 = ((r * 256 : Nat) : Int) := by omega
  rw [e, wrap16]
theorem shr8 (r : Nat) : (r : Int).fdiv (2 ^ 8) = ((r / 256 : Nat) : Int) := by
  rw [Int.fdiv_eq_ediv_of_nonneg _ (by decide)]
  omega
attribute [local irreducible] u16s tabN
/-- One byte more. -/
theorem sum_round {w0 : World} {F : Nat → Prop} {s : ByteArray} {blk cap : Nat} (hF : F blk) (hc : ∀ j, j < s.size → w0.cell? ⟨blk, j, none⟩ = some (.int .u8 (s.data.toList.getD j 0).toNat)) (hsz : s.size ≤ 4611686018427387904) {Q : Exit → Act → World → Prop}
    (hQ : ∀ a' w', Stand F w0 27 (pS [] (.slice (some ⟨blk, 0, none⟩) s.size cap) s.size s.size (crcF s.data.toList 65535 : Nat)) a' w' → Q (.exit 0) a' w') :
    ∀ (m i : Nat) (act : Act) (w : World), i + m = s.size → Stand F w0 27 (pS [] (.slice (some ⟨blk, 0, none⟩) s.size cap) s.size i (crcF (s.data.toList.take i) 65535 : Nat)) act w → Code.rounds Try.prog pL Q (m + 1) act w := by
  have hlen : s.data.toList.length = s.size := rfl
  intro m
  induction m with
  | zero =>
    intro i act w hi hst
    rw [rounds_succ, pL_is]
    refine wp_seq ((runs_drop frCall _ _ (pr4 _ _ _ _)).stand (oP12 ..) hst fun a1 w1 h1 => ?_)
    have hb : decide ((i : Int) < (s.size : Int)) = false := decide_eq_false (by omega)
    rw [hb] at h1
    refine wp_seq (wp_cond_false (h1.eval (t := 12) rfl) (wp_exit ?_))
    have hi' : i = s.size := by omega
    subst hi'
    rw [← hlen, List.take_length] at h1
    refine hQ a1 w1 (h1.weak ?_ (Nat.le_refl _) (Nat.le_refl _))
    rw [← wP12 _ _ _ _ false]
    exact dropSt_wk _ _ _
  | succ m ih =>
    intro i act w hi hst
    rw [rounds_succ, pL_is]
    refine wp_seq ((runs_drop frCall _ _ (pr4 _ _ _ _)).stand (oP12 ..) hst fun a1 w1 h1 => ?_)
    have hb : decide ((i : Int) < (s.size : Int)) = true := decide_eq_true (by omega)
    rw [hb] at h1
    refine wp_seq (wp_cond_true (h1.eval (t := 12) rfl) (wp_skip ?_))
    have h2 : Stand F w0 27 (pS [] (.slice (some ⟨blk, 0, none⟩) s.size cap) s.size i (crcF (s.data.toList.take i) 65535 : Nat)) a1 w1 := by
      refine h1.weak ?_ (Nat.le_refl _) (Nat.le_refl _)
      rw [← wP12 _ _ _ _ true]
      exact dropSt_wk _ _ _
    generalize hr : crcF (s.data.toList.take i) 65535 = r at h2
    have hrl : r < 65536 := by rw [← hr]; exact crcF_lt _ _ (by omega)
    generalize hcc : (s.data.toList.getD i 0) = c
    have hcl : c.toNat < 256 := c.toNat_lt
    obtain ⟨ti, hti, hs1⟩ := info_of j5
    refine wp_seq (wp_block (wp_seq (wp_region ?_)))
    rw [q5_n]
    refine index_stand q5_0 (by omega) (lP ..) v38 hti h2 (b := ⟨blk, 0, none⟩) (len := s.size) (cap := cap) (i := i) (ik := .i64) (h2.eval (t := 9) rfl) (h2.eval (t := 11) rfl) (by omega) _ fun a3 h3 => ?_
    have hcell : w1.cell? ((⟨blk, 0, none⟩ : Addr).add (i * ti.size)) = some (.int .u8 (c.toNat : Int)) := by
      rw [hs1, Nat.mul_one, addr_add, Nat.zero_add]
      have := hc i (by omega)
      rw [hcc] at this
      have e := (h2.keep.frame blk hF).2
      unfold World.cell? at this ⊢
      rw [e]
      exact this
    refine load_stand q5_1 (by omega) (by rw [List.length_set]; exact lP ..) h3 (h3.eval (t := 13) rfl) (run_loadScalar v5 rfl hcell) _ fun a4 h4 => ?_
    refine ops_stand (frCall _) (qf := isSum ([] : Gam)) [4096] _ (pr5 (.slice (some ⟨blk, 0, none⟩) s.size cap) (.pointer (some ((⟨blk, 0, none⟩ : Addr).add (i * ti.size)))) s.size i r c.toNat) (fun _ _ hj => drop_at hj) (oP6 (.slice (some ⟨blk, 0, none⟩) s.size cap) s.size i r c.toNat) h4 [] fun a5 w5 h5 => ?_
    refine wp_region ?_
    rw [q6_n]
    refine ops_stand (frCall _) (qf := isSum ([] : Gam)) [4096] _ (pr6 (.slice (some ⟨blk, 0, none⟩) s.size cap) s.size i r c.toNat) (fun _ _ hj => take_at hj) (oP62 ..) h5 _ fun a6 w6 h6 => ?_
    have e1 : IntKind.u16.wrap ((r : Int) * 2 ^ 8) = ((r * 256 % 65536 : Nat) : Int) := shl8 r
    have hx : (r / 256 ^^^ c.toNat) < 2 ^ 8 := Nat.xor_lt_two_pow (by omega) (by omega)
    have e2 : xorV .u8 (IntKind.u8.wrap ((r : Int).fdiv (2 ^ 8))) (c.toNat : Int) = ((r / 256 ^^^ c.toNat : Nat) : Int) := by
      rw [shr8, wrap8, Nat.mod_eq_of_lt (by omega), xor8 (by omega) hcl]
    rw [e1, e2] at h6
    obtain ⟨t22, h22, s22⟩ := info_of j22
    obtain ⟨b1, b2⟩ := tab_at (j := r / 256 ^^^ c.toNat) (by omega)
    refine own_index q6_7 (by omega) (lP62 ..) v40 h22 s22 h6 (b := 4096) (j := r / 256 ^^^ c.toNat) (ik := .u8) rfl rfl (by omega) _ fun a7 h7 => ?_
    refine own_load q6_8 (by omega) (by rw [List.length_set]; exact lP62 ..) v22 rfl h7 (b := 4096) (j := r / 256 ^^^ c.toNat) rfl (hP62 ..) b2 _ fun a8 h8 => ?_
    refine ops_stand (frCall _) (qf := isSum ([] : Gam)) [4096] _ (pr6b (.slice (some ⟨blk, 0, none⟩) s.size cap) s.size i r (r * 256 % 65536 : Nat) (r / 256 ^^^ c.toNat : Nat) (r / 256 ^^^ c.toNat)) (fun _ _ hj => drop_at hj) (oP ..) h8 [] fun a9 w9 h9 => ?_
    have e3 : xorV .u16 ((r * 256 % 65536 : Nat) : Int) (tabN.getD (r / 256 ^^^ c.toNat) 0 : Nat) = ((crcF (s.data.toList.take (i + 1)) 65535 : Nat) : Int) := by
      have hs8 : sh8 ((r / 256 ^^^ c.toNat) * 256) < 65536 := sh8_lt (by omega)
      rw [b1, xor16 (by omega) hs8, byte_at (by omega), crcF_snoc, hr, hcc, ← st_eq hrl hcl]
      rfl
    rw [e3] at h9
    refine (runs_drop frCall _ _ (pr7 _ _ _ _)).stand (oP ..) h9 fun a10 w10 h10 => ?_
    have hw : IntKind.i64.wrap ((i : Int) + 1) = ((i + 1 : Nat) : Int) := by rw [wrapM]; omega
    rw [hw] at h10
    exact ih (i + 1) a10 w10 (by omega) h10
theorem sum_calls (s : ByteArray) (hsz : s.size ≤ 4611686018427387904) (w : World) : Calls Try.prog 9 #[.string s] w fun e w' => ∃ v, e = .returned v ∧ RowKit.Below w.heap.size w w' ∧ v = .int .u16 (crcF s.data.toList 65535 : Nat) := by
  refine calls_of_wp f9_is pC_is ?_
  have hst := Stand.start (N := 27) [.string s] w 4096 frH frT (by simp)
  refine wp_seq ((runs_drop frCall _ _ (pr0 s)).stand (oP0 s) hst fun a1 w1 h1 => ?_)
  refine wp_seq (wp_region ?_)
  rw [q1_n]
  refine call_world q1_0 (by omega) (lP0 s) h1 rfl f19_is f19_on (args := #[]) (by simp [cTab]) (table_calls w1) _ fun v a2 w2 hv hb h2 => ?_
  subst hv
  have K2 : ∀ w'', Keep (Wide (fun k => k < w.heap.size) w1 w2) w2 w'' → Keep (fun k => k < w.heap.size) w w'' := fun w'' k => h1.keep.wide hb.os hb.tape hb.output hb.size (fun j hj => hb.block j (h1.keep.lt hj)) k
  refine ops_stand (frCall _) (qf := isSum ([] : Gam)) [4096] _ (pr1 s) (fun _ _ hj => drop_at hj) (oP1 ..) h2 [] fun a3 w3 h3 => ?_
  refine wp_seq ((runs_drop frCall _ _ (pr2 s)).stand (oP2 ..) h3 fun a4 w4 h4 => ?_)
  refine wp_seq (wp_seq (wp_region ?_))
  rw [q3_n]
  refine move_stand q3_0 (by omega) (lP2 ..) h4 (v := .string s) (h4.eval (t := 0) rfl) _ fun a5 h5 => ?_
  refine op_world q3_1 (by omega) (by rw [List.length_set]; exact lP2 ..) h5 (v := .slice (some ⟨w4.heap.size, 0, none⟩) s.size (grownCap w4 s.size 0 5)) (w' := Lib.bytesWorld w4 5 s) (fun o ho => ?_) (by rw [Lib.bytesWorld_size]; omega) (fun j hj _ => Lib.bytesWorld_at_old w4 5 s j hj) _ fun a6 h6 => ?_
  · have hx : a5.eval (.tmp 8) = .string s := h5.eval (t := 8) rfl
    simp only [execOp, ho, hx, Sem.run_bind, Lib.run_convert_string_bytes w4 9 38 5 s v9 v38 v5, Result.andThen_ok, Sem.run_pure]
  refine ops_stand (frCall _) (qf := isSum ([] : Gam)) [4096] _ (pr3 s 65535 (some ⟨w4.heap.size, 0, none⟩) s.size (grownCap w4 s.size 0 5)) (fun _ _ hj => drop_at hj) (oP (.slice (some ⟨w4.heap.size, 0, none⟩) s.size (grownCap w4 s.size 0 5)) s.size 0 65535) h6 [] fun a7 w7 h7 => ?_
  obtain ⟨z1, z2, z3⟩ := bytesWorld_kept w4 5 s
  have K3 : ∀ w'', Keep (Wide (Wide (fun k => k < w.heap.size) w1 w2) w4 (Lib.bytesWorld w4 5 s)) (Lib.bytesWorld w4 5 s) w'' → Keep (fun k => k < w.heap.size) w w'' := fun w'' k =>
    K2 w'' (h4.keep.wide z1 z2 z3 (by rw [Lib.bytesWorld_size]; omega) (fun j hj => Lib.bytesWorld_at_old w4 5 s j (h4.keep.lt hj)) k)
  refine wp_block (wp_loop_rounds (s.size + 1) (sum_round (blk := w4.heap.size) (cap := grownCap w4 s.size 0 5) (.inr ⟨Nat.le_refl _, by rw [Lib.bytesWorld_size]; omega⟩) (fun j hj => Lib.bytesWorld_cell w4 5 s j hj) hsz (fun a8 w8 h8 => ?_) s.size 0 a7 w7 (by omega) h7))
  refine (runs_drop frCall _ _ (prE _ _ _ _)).stand (oPE ..) h8 fun a9 w9 h9 => ?_
  obtain ⟨y1, y2, y3⟩ := h9.results (P := Try.prog) (fn := Try.f9) (pRes _)
  exact bodyPost_ret y1 y2 ⟨_, rfl, (K3 _ y3).below, rfl⟩
end Go.Ab
