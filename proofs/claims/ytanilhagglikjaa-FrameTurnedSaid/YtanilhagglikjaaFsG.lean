/- A part of the proof of 'FrameTurned': lemmas, no statement of their own; no condition. -/
import Derived.Test.YtanilhagglikjaaFsOne
/- FrameScans. -/
namespace Go.Ab
open Go Go.Proofs
noncomputable def kC : Code := Try.f6.body.getD .skip
noncomputable def kc0 : Code := seqL kC
noncomputable def kc1 : Code := seqL (seqR kC)
noncomputable def kc3 : Code := seqL (seqR (seqR kC))
noncomputable def kT : Code := seqR (seqR (seqR kC))
noncomputable def kO5 : Array Oper := regO (seqL kT)
noncomputable def kO6 : Array Oper := regO (seqL (seqR kT))
noncomputable def kO7 : Array Oper := regO (seqL (seqR (seqR kT)))
theorem kC_is : Try.f6.body = some (.seq kc0 (.seq kc1 (.seq kc3 (.seq (.region 5 kO5 false) (.seq (.region 6 kO6 false) (.seq (.region 7 kO7 false) .ret)))))) := by kernel_rfl
def kS (s : ByteArray) (l : List (Nat × Value)) : St := mkSt 39 ([0] ++ l.map (·.1)) ([.string s] ++ l.map (·.2)) [] [] [] 4096 frH frT
def kE (b : Bool) : St := mkSt 39 [2] [.bool b] [] [] [] 4096 frH frT
def kG (aw : Unit → Bool) : Gam := [(11, S0w (fun _ => true) aw)]
def tup3 (l : Value) (z : ByteArray) (o : Int) : Value := .tuple #[l, .string z, .int .i64 o]
section
variable (aw : Unit → Bool) (s z y : ByteArray) (ua va : Option Addr) (un uc vn vc : Nat) (o p : Int) (b : Bool)
theorem kr0 : frRun (kG aw) 39 kc0 ⟨[Value.string s].map .val ++ List.replicate (39 - [Value.string s].length) (.val undef), [], 4096, frH, frT, []⟩ [] [0] = some (.normal, kS s []) := by kernel_rfl
theorem kr1 : frRun (kG aw) 39 kc1 (kS s []) [] [0] = bif !aw () then some (.ret, { kS s [] with lo := 4096 }) else some (.normal, { kS s [] with tmps := (kS s []).tmps }) := by kernel_rfl
theorem kr3 : frRun (kG aw) 39 kc3 (kS s []) [] [0, 2] = bif decide ((s.size : Int) > 3000) then some (.ret, kS s [(2, .bool true)]) else some (.normal, { kS s [] with tmps := (kS s []).tmps }) := by kernel_rfl
theorem kr5 : frOps 39 kO5 (kO5.toList.take 1) (kS s []) [] [0, 15] = some (true, kS s [(15, .string s)]) := by kernel_rfl
theorem kr5b : frOps 39 kO5 (kO5.toList.drop 2) { kS s [(15, .string s)] with tmps := (kS s [(15, .string s)]).tmps.set 16 (.val (tup3 (.slice ua un uc) z o)) } [] [0, 3, 4, 5] = some (true, kS s [(3, (.slice ua un uc)), (4, .string z), (5, .int .i64 o)]) := by kernel_rfl
theorem kr6 : frOps 39 kO6 (kO6.toList.take 1) (kS s [(3, (.slice ua un uc)), (4, .string z), (5, .int .i64 o)]) [] [0, 3, 4, 5, 21] = some (true, kS s [(3, (.slice ua un uc)), (4, .string z), (5, .int .i64 o), (21, .string s)]) := by kernel_rfl
theorem kr6b : frOps 39 kO6 (kO6.toList.drop 2) { kS s [(3, (.slice ua un uc)), (4, .string z), (5, .int .i64 o), (21, .string s)] with tmps := (kS s [(3, (.slice ua un uc)), (4, .string z), (5, .int .i64 o), (21, .string s)]).tmps.set 22 (.val (tup3 (.slice va vn vc) y p)) } [] [0, 3, 4, 5, 6, 7, 8] = some (true, kS s [(3, (.slice ua un uc)), (4, .string z), (5, .int .i64 o), (6, (.slice va vn vc)), (7, .string y), (8, .int .i64 p)]) := by kernel_rfl
def k7L (x x' : Value) (z y : ByteArray) (o p : Int) : List (Nat × Value) := [(4, .string z), (5, .int .i64 o), (7, .string y), (8, .int .i64 p), (26, x), (27, x')]
theorem kr7 : frOps 39 kO7 (kO7.toList.take 2) (kS s [(3, (.slice ua un uc)), (4, .string z), (5, .int .i64 o), (6, (.slice va vn vc)), (7, .string y), (8, .int .i64 p)]) [] [0, 4, 5, 7, 8, 26, 27] = some (true, kS s (k7L (.slice ua un uc) (.slice va vn vc) z y o p)) := by kernel_rfl
theorem kr7b : frOps 39 kO7 (kO7.toList.drop 3) { kS s (k7L (.slice ua un uc) (.slice va vn vc) z y o p) with tmps := (kS s (k7L (.slice ua un uc) (.slice va vn vc) z y o p)).tmps.set 28 (.val (.bool true)) } [] [2] = bif z.toList == y.toList then some (true, kE (o == p)) else some (true, kE false) := by kernel_rfl
theorem ok0 : okNamed (kS s []) = true := by kernel_rfl
theorem ok2 : okNamed (kS s [(2, .bool true)]) = true := by kernel_rfl
theorem ok15 : okNamed (kS s [(15, .string s)]) = true := by kernel_rfl
theorem ok5 : okNamed (kS s [(3, (.slice ua un uc)), (4, .string z), (5, .int .i64 o)]) = true := by kernel_rfl
theorem ok21 : okNamed (kS s [(3, (.slice ua un uc)), (4, .string z), (5, .int .i64 o), (21, .string s)]) = true := by kernel_rfl
theorem ok6 : okNamed (kS s [(3, (.slice ua un uc)), (4, .string z), (5, .int .i64 o), (6, (.slice va vn vc)), (7, .string y), (8, .int .i64 p)]) = true := by kernel_rfl
theorem ok7 : okNamed (kS s (k7L (.slice ua un uc) (.slice va vn vc) z y o p)) = true := by kernel_rfl
theorem okE : okNamed (kE b) = true := by kernel_rfl
theorem lk15 : (kS s [(15, .string s)]).tmps.length = 39 := by kernel_rfl
theorem lk21 : (kS s [(3, (.slice ua un uc)), (4, .string z), (5, .int .i64 o), (21, .string s)]).tmps.length = 39 := by kernel_rfl
theorem lk7 : (kS s (k7L (.slice ua un uc) (.slice va vn vc) z y o p)).tmps.length = 39 := by kernel_rfl
theorem kR2 : resA Try.prog (kS s [(2, .bool true)]) Try.f6.results.toList = some [.val (.bool true)] := by kernel_rfl
theorem kRE : resA Try.prog (kE b) Try.f6.results.toList = some [.val (.bool b)] := by kernel_rfl
end
def cK5 : Call := { callee := .value (.func 16), args := #[.tmp 15], argTypes := #[9] }
def cK6 : Call := { callee := .value (.func 17), args := #[.tmp 21], argTypes := #[9] }
def cK7 : Call := { callee := .value (.func 18), args := #[.tmp 26, .tmp 27], argTypes := #[33, 33] }
theorem kk5_1 : sigOf kO5 1 = some (.call cK5, some 16, true) := by kernel_rfl
theorem kk6_1 : sigOf kO6 1 = some (.call cK6, some 22, true) := by kernel_rfl
theorem kk7_2 : sigOf kO7 2 = some (.call cK7, some 28, true) := by kernel_rfl
theorem kk5_n : List.range kO5.size = (List.range (kO5.toList.take 1).length).map (0 + ·) ++ (1 :: ((List.range (kO5.toList.drop 2).length).map (2 + ·) ++ [])) := by kernel_rfl
theorem kk6_n : List.range kO6.size = (List.range (kO6.toList.take 1).length).map (0 + ·) ++ (1 :: ((List.range (kO6.toList.drop 2).length).map (2 + ·) ++ [])) := by kernel_rfl
theorem kk7_n : List.range kO7.size = (List.range (kO7.toList.take 2).length).map (0 + ·) ++ (2 :: ((List.range (kO7.toList.drop 3).length).map (3 + ·) ++ [])) := by kernel_rfl
theorem f6_is : Try.prog.funcs[6]? = some Try.f6 := by kernel_rfl
theorem kCall : ∀ β, CallOk Try.prog (callN Try.prog { gam := kG fun _ => true } 1 β) := callN_ok (E := { gam := kG fun _ => true }) (.cons okAwake .nil) 1
theorem scan_len (l : List UInt8) : (scanV l).1.length + (scanV l).2.1.length ≤ l.length := by
  have key : ∀ (n : Nat) (l : List UInt8), l.length ≤ n → (scanF n l).1.length + (scanF n l).2.1.length ≤ l.length := by
    intro n
    induction n with
    | zero => intro l _; simp [scanF]
    | succ n ih =>
      intro l hl
      show (stepS (scanF n) l).1.length + (stepS (scanF n) l).2.1.length ≤ l.length
      unfold stepS
      cases l with
      | nil => simp
      | cons b r =>
        have h1 := ih r (by simpa using hl)
        have h2 := ih ((b :: r).drop (((b :: r).getD 2 0).toNat + 5)) (by rw [List.length_drop]; simp only [List.length_cons] at hl ⊢; omega)
        rw [List.length_drop] at h2
        dsimp only
        split
        · split
          · simp
          · split
            · simp only [skipS, List.length_cons]; omega
            · split
              · simp
              · split
                · simp only [consS, List.length_cons] at *; omega
                · simp only [skipS, List.length_cons]; omega
        · simp only [skipS, List.length_cons]; omega
  exact key l.length l (Nat.le_refl _)
theorem FrameScans_calls (s : ByteArray) (w : World) : Calls Try.prog 6 #[.string s] w fun e w' => e = .returned (.bool true) ∧ RowKit.Below w.heap.size w w' := by
  refine calls_of_wp f6_is kC_is ?_
  have hst := Stand.start (N := 39) [.string s] w 4096 frH frT (by simp)
  have L := Live.start w
  refine wp_seq ((runs_drop kCall _ _ (kr0 (fun _ => true) s)).stand (ok0 ..) hst fun a1 w1 h1 => ?_)
  have hrun := kr1 (fun _ => true) s
  rw [Bool.not_true, cond_false] at hrun
  refine wp_seq ((runs_drop kCall _ _ hrun).stand (ok0 ..) h1 fun a2 w2 h2 => ?_)
  have hrun := kr3 (fun _ => true) s
  by_cases h3000 : (s.size : Int) > 3000
  · rw [decide_eq_true h3000, cond_true] at hrun
    refine wp_seq ((runs_drop kCall _ _ hrun).stand (ok2 ..) h2 fun a3 w3 h3 => ?_)
    obtain ⟨y1, y2, y3⟩ := h3.results (P := Try.prog) (fn := Try.f6) (kR2 ..)
    exact (bodyPost_ret y1 y2 ⟨rfl, (L.chain _ y3).below⟩ : bodyPost Try.prog Try.f6 (fun e w' => e = .returned (.bool true) ∧ RowKit.Below w.heap.size w w') .ret a3 w3)
  rw [decide_eq_false h3000, cond_false] at hrun
  refine wp_seq ((runs_drop kCall _ _ hrun).stand (ok0 ..) h2 fun a3 w3 h3 => ?_)
  have hsl := scan_len s.data.toList
  have hdl : s.data.toList.length = s.size := rfl
  generalize hx : scanV s.data.toList = x at hsl
  refine wp_seq (wp_region ?_)
  rw [kk5_n]
  refine ops_stand (frCall _) (qf := isSum ([] : Gam)) [] _ (kr5 s) (fun _ _ hj => take_at hj) (ok15 ..) h3 _ fun a4 w4 h4 => ?_
  have hxe : a4.eval (.tmp 15) = .string s := h4.eval (t := 15) rfl
  refine call_world kk5_1 (by omega) (lk15 ..) h4 rfl f16_is f16_on (args := #[.string s]) (by simp [cK5, hxe]) (scan_calls s (by omega) w4) _ fun v a5 w5 hv hb h5 => ?_
  rw [hx] at hv
  obtain ⟨l, rfl, hl, hln, _⟩ := scanX_at hv (by omega)
  obtain ⟨la, lc, rfl⟩ := hl.val
  have L5 := L.step h4 hb.os hb.tape hb.output hb.size fun j hj => hb.block j (by have := L.size h4; omega)
  refine ops_stand (frCall _) (qf := isSum ([] : Gam)) [] _ (kr5b s (bsL x.2.1) la x.1.length lc x.2.2) (fun _ _ hj => drop_at hj) (ok5 ..) h5 [] fun a6 w6 h6 => ?_
  refine wp_seq (wp_region ?_)
  rw [kk6_n]
  refine ops_stand (frCall _) (qf := isSum ([] : Gam)) [] _ (kr6 s (bsL x.2.1) la x.1.length lc x.2.2) (fun _ _ hj => take_at hj) (ok21 ..) h6 _ fun a7 w7 h7 => ?_
  have hxe : a7.eval (.tmp 21) = .string s := h7.eval (t := 21) rfl
  refine call_world kk6_1 (by omega) (lk21 ..) h7 rfl f17_is f17_on (args := #[.string s]) (by simp [cK6, hxe]) (rscan_calls s (by omega) w7) _ fun v a8 w8 hv hb2 h8 => ?_
  rw [hx] at hv
  obtain ⟨m, rfl, hm, hmn, _⟩ := scanX_at hv (by omega)
  obtain ⟨ma, mc, rfl⟩ := hm.val
  have L8 := L5.step h7 hb2.os hb2.tape hb2.output hb2.size fun j hj => hb2.block j (by have := L5.size h7; omega)
  refine ops_stand (frCall _) (qf := isSum ([] : Gam)) [] _ (kr6b s (bsL x.2.1) (bsL x.2.1) la ma x.1.length lc x.1.length mc x.2.2 x.2.2) (fun _ _ hj => drop_at hj) (ok6 ..) h8 [] fun a9 w9 h9 => ?_
  refine wp_seq (wp_region ?_)
  rw [kk7_n]
  refine ops_stand (frCall _) (qf := isSum ([] : Gam)) [] _ (kr7 s (bsL x.2.1) (bsL x.2.1) la ma x.1.length lc x.1.length mc x.2.2 x.2.2) (fun _ _ hj => take_at hj) (ok7 ..) h9 _ fun a10 w10 h10 => ?_
  have hl10 := hl.keep (w' := w10) fun r hr => by
    have hF5 : Wide (fun k => k < w.heap.size) w4 w5 r := .inr (hln r hr)
    have hF8 : Wide (Wide (fun k => k < w.heap.size) w4 w5) w7 w8 r := .inl hF5
    have e1 := (h7.keep.frame r hF5).2
    have e2 := (h10.keep.frame r hF8).2
    have e3 := hb2.block r (h7.keep.lt hF5)
    rw [e2, e3, e1]
  have hm10 := hm.keep (w' := w10) fun r hr => (h10.keep.frame r (.inr (hmn r hr))).2
  have hxe : a10.eval (.tmp 26) = .slice la x.1.length lc := h10.eval (t := 26) rfl
  have hye : a10.eval (.tmp 27) = .slice ma x.1.length mc := h10.eval (t := 27) rfl
  refine call_world kk7_2 (by omega) (lk7 ..) h10 rfl f18_is f18_on (args := #[.slice la x.1.length lc, .slice ma x.1.length mc]) (by simp [cK7, hxe, hye]) (same_calls hl10 hm10) _ fun v a11 w11 hv hb3 h11 => ?_
  subst hv
  have L11 := L8.step h10 hb3.os hb3.tape hb3.output hb3.size fun j hj => hb3.block j (by have := L8.size h10; omega)
  have hrun := kr7b s (bsL x.2.1) (bsL x.2.1) la ma x.1.length lc x.1.length mc x.2.2 x.2.2
  rw [beq_self_eq_true, beq_self_eq_true, cond_true] at hrun
  refine ops_stand (frCall _) (qf := isSum ([] : Gam)) [] _ hrun (fun _ _ hj => drop_at hj) (okE ..) h11 [] fun a12 w12 h12 => ?_
  obtain ⟨y1, y2, y3⟩ := h12.results (P := Try.prog) (fn := Try.f6) (kRE ..)
  exact wp_ret (bodyPost_ret y1 y2 ⟨rfl, (L11.chain _ y3).below⟩)
end Go.Ab
