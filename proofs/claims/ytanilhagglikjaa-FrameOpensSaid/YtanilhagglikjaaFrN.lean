/- A part of the proof of 'FrameOpens': lemmas, no statement of their own; no condition. -/
import Derived.Test.YtanilhagglikjaaFrM
import Derived.Lib.Bytealg
import Derived.Laws.Externs
/- strings.IndexByte. -/
namespace Go.Ab
open Go Go.Proofs
/-- A number of 8 bits. -/
structure N8 where
  n : Nat
instance : Cod N8 where
  enc x := .int .u8 x.n
  dec v := match v with | .int .u8 (.ofNat n) => some ⟨n⟩ | _ => none
  law v a h := by split at h <;> simp_all; subst h; rfl
def idxV (p : ByteArray × N8 × Unit) : Int := Lib.indexByte p.1.data.toList p.2.1.n.toUInt8
noncomputable def iC : Code := Try.f21.body.getD .skip
noncomputable def iR0 : Code := seqL iC
noncomputable def iO : Array Oper := regO (seqL (seqR iC))
theorem iC_is : Try.f21.body = some (.seq iR0 (.seq (.region 1 iO false) .ret)) := by kernel_rfl
theorem iN : Try.f21.ntmps = 8 := by kernel_rfl
def iS (s : ByteArray) (c : Int) : St := mkSt 8 [0, 1] [.string s, .int .u8 c] [] [] [] 4096 frH frT
def iT (s : ByteArray) (c : Int) : St := mkSt 8 [5, 6] [.string s, .int .u8 c] [] [] [] 4096 frH frT
def iE (r : Int) : St := mkSt 8 [4] [.int .i64 r] [] [] [] 4096 frH frT
theorem ir0 (s : ByteArray) (c : Int) : frRun [] 8 iR0 ⟨[Value.string s, .int .u8 c].map .val ++ List.replicate (8 - [Value.string s, .int .u8 c].length) (.val undef), [], 4096, frH, frT, []⟩ [] [0, 1] = some (.normal, iS s c) := by kernel_rfl
theorem f22_is : Try.prog.funcs[22]? = some Try.f22 := by kernel_rfl
theorem f22_n : (Try.f22.name == "runtime.NumGoroutine") = false := by kernel_rfl
theorem f22_b : Try.f22.body.isNone = true := by kernel_rfl
theorem f22_x : Extern.findNext Try.f22 = none := by kernel_rfl
theorem f22_e : Extern.find Try.f22 = some Extern.BytealgIndexByte.indexByte := by kernel_rfl
def cIdx : Call := { callee := .value (.func 22), args := #[.tmp 5, .tmp 6], argTypes := #[9, 5] }
theorem ig2 : sigOf iO 2 = some (.call cIdx, some 7, true) := by kernel_rfl
theorem ign : List.range iO.size = (List.range (iO.toList.take 2).length).map (0 + ·) ++ (2 :: ((List.range (iO.toList.drop 3).length).map (3 + ·) ++ [])) := by kernel_rfl
theorem ir1 (s : ByteArray) (c : Int) : frOps 8 iO (iO.toList.take 2) (iS s c) [] [5, 6] = some (true, iT s c) := by kernel_rfl
theorem ir2 (s : ByteArray) (c r : Int) : frOps 8 iO (iO.toList.drop 3) { iT s c with tmps := (iT s c).tmps.set 7 (.val (.int .i64 r)) } [] [4] = some (true, iE r) := by kernel_rfl
theorem io1 (s : ByteArray) (c : Int) : okNamed (iS s c) = true := by kernel_rfl
theorem io2 (s : ByteArray) (c : Int) : okNamed (iT s c) = true := by kernel_rfl
theorem io3 (r : Int) : okNamed (iE r) = true := by kernel_rfl
theorem il2 (s : ByteArray) (c : Int) : (iT s c).tmps.length = 8 := by kernel_rfl
theorem ires (r : Int) : resA Try.prog (iE r) Try.f21.results.toList = some [.val (.int .i64 r)] := by kernel_rfl
theorem f21_is : Try.prog.funcs[21]? = some Try.f21 := by kernel_rfl
theorem idx_calls (s : ByteArray) (c : Nat) (w : World) : Calls Try.prog 21 #[.string s, .int .u8 c] w fun e w' => ∃ v, e = .returned v ∧ RowKit.Below w.heap.size w w' ∧ v = .int .i64 (Lib.indexByte s.data.toList c.toUInt8) := by
  refine calls_of_wp f21_is iC_is ?_
  have hst := Stand.start (N := 8) [.string s, .int .u8 c] w 4096 frH frT (by simp)
  refine wp_seq ((runs_drop frCall _ _ (ir0 s c)).stand (io1 ..) hst fun a1 w1 h1 => ?_)
  refine wp_seq (wp_region ?_)
  rw [ign]
  refine ops_stand (frCall _) (qf := isSum ([] : Gam)) [] _ (ir1 s c) (fun _ _ hj => take_at hj) (io2 ..) h1 _ fun a2 w2 h2 => ?_
  refine op_here ig2 (by omega) (il2 ..) h2 (v := .int .i64 (Lib.indexByte s.data.toList c.toUInt8)) (fun o ho => ?_) _ fun a3 h3 => ?_
  · have hx : a2.eval (.tmp 5) = .string s := h2.eval (t := 5) rfl
    have hy : a2.eval (.tmp 6) = .int .u8 c := h2.eval (t := 6) rfl
    have e : a2.eval (.func 22) = .func (.func 22) #[] #[] := rfl
    have hargs : cIdx.args.map a2.eval = #[.string s, .int .u8 c] := by simp [cIdx, hx, hy]
    have hcal : cIdx.callee = .value (.func 22) := rfl
    have hrun := run_callFunc_extern (P := Try.prog) f22_is f22_n f22_b f22_x f22_e #[.string s, .int .u8 (c : Int)] w2
    rw [Lib.run_indexByteString] at hrun
    simp only [execOp, ho, resolve, hcal, e, Deferred.ofValue, Sem.run_bind, Sem.run_pure, Result.andThen_ok, invoke, hargs, Array.empty_append, Array.append_empty, hrun, Int.toNat_natCast]
  refine ops_stand (frCall _) (qf := isSum ([] : Gam)) [] _ (ir2 s c _) (fun _ _ hj => drop_at hj) (io3 ..) h3 [] fun a4 w4 h4 => ?_
  obtain ⟨y1, y2, y3⟩ := h4.results (P := Try.prog) (fn := Try.f21) (ires _)
  exact wp_ret (bodyPost_ret y1 y2 ⟨_, rfl, y3.below, rfl⟩)
theorem okIdx21 : SumOk Try.prog 21 (S0w (fun _ => true) idxV) := S0w_of fun a w _ => idx_calls a.1 a.2.1.n w
theorem idx20 (pre : ByteArray × N8 × Unit → Bool) (g : ByteArray × N8 × Unit → Int) (s : ByteArray) (c : N8) : fnSum Try.prog { gam := [(21, S0w pre g)] } [] 20 20 [.val (.string s), .val (.int .u8 c.n)] [] = bif pre (s, c, ()) then some (.val (.int .i64 (g (s, c, ()))), []) else none := by kernel_rfl
theorem okIdx : SumOk Try.prog 20 (S0w (fun _ => true) idxV) := by
  have hG : GamOk Try.prog [(21, S0w (fun _ => true) idxV)] := .cons okIdx21 .nil
  refine S0w_of fun a w _ => ?_
  obtain ⟨s, c, _⟩ := a
  exact Calls.mono (calls_of_sum (E := { gam := [(21, S0w (fun _ => true) idxV)] }) hG (d := 20) (f := 20) (vals := [.string s, .int .u8 c.n]) (v := Cod.enc (idxV (s, c, ()))) ((idx20 _ _ s c).trans rfl) w) fun e w' h => ⟨_, h.1, h.2, rfl⟩
end Go.Ab
