/- A part of the proof of 'BdotHolds': lemmas, no statement of their own; no condition. -/
import Derived.Test.YtgccejhdohpojaaHdC
/- BdotHolds: the walk. -/
namespace Go.Ab
open Go Go.Proofs
section
variable {P : Program} {N : Nat} {ops : Array Oper} {Q : Exit → Act → World → Prop} {F : Nat → Prop} {w0 : World} {s : St} {a : Act} {w : World}
/-- One less. -/
theorem dec_stand {k d t ty : Nat} {x : Operand} {ik : IntKind} {i : Int} (hs : sigOf ops k = some (.binOp .sub t x (.const (.int ik (Int.ofNat 1))) ty, some d, true)) (hd : d < N) (hlen : s.tmps.length = N) (hh : Stand F w0 N s a w) (hx : a.eval x = .int ik i) (rest : List Nat)
    (hK : ∀ a', Stand F w0 N { s with tmps := s.tmps.set d (.val (.int ik (ik.wrap (i - 1)))) } a' w → wpOps P ops Q rest a' w) : wpOps P ops Q (k :: rest) a w := by
  obtain ⟨o, ho, hop, hdst, hg⟩ := sigOf_some hs
  refine op_stand ho hg hdst hd hlen hh (v := .int ik (ik.wrap (i - 1))) ?_ rest hK
  have hc : a.eval (.const (.int ik 1)) = .int ik 1 := rfl
  simp [execOp, hop, eqGuard_at_int, Go.binOp, hx, hc, Op.intArith]
/-- A part of an array in foreign memory. -/
theorem part_stand {k d : Nat} {t elem : TypeId} {n : Nat} {x ix : Operand} {ti : TypeInfo} (hs : sigOf ops k = some (.indexAddr t x ix, some d, true)) (hd : d < N) (hlen : s.tmps.length = N) (hu : P.underlying t = some (.array n elem)) (hi : P.info? elem = some ti)
    (hh : Stand F w0 N s a w) {b : Addr} {i : Nat} {ik : IntKind} (hx : a.eval x = .pointer (some b)) (hix : a.eval ix = .int ik i) (hlt : i < n) (rest : List Nat)
    (hK : ∀ a', Stand F w0 N { s with tmps := s.tmps.set d (.val (.pointer (some (b.add (i * ti.size))))) } a' w → wpOps P ops Q rest a' w) : wpOps P ops Q (k :: rest) a w := by
  obtain ⟨o, ho, hop, hdst, hg⟩ := sigOf_some hs
  refine op_stand ho hg hdst hd hlen hh (v := .pointer (some (b.add (i * ti.size)))) ?_ rest hK
  have hb : 0 ≤ (i : Int) ∧ (i : Int) < (n : Int) := by omega
  simp only [execOp, hop, Instr.indexAt, hix, asIntOf, Sem.run_bind, run_underlying hu, Result.andThen_ok, hx, Instr.sureAddr, Sem.run_pure, Sem.run_ite, if_pos hb, run_sizeOf hi, Int.toNat_natCast]
end
theorem t11_0 : sigOf o11 0 = some (.move (.tmp 26), some 28, true) := by kernel_rfl
theorem t11_1 : sigOf o11 1 = some (.indexAddr 54 (.tmp 24) (.tmp 26), some 29, true) := by kernel_rfl
theorem t11_2 : sigOf o11 2 = some (.load 33 (.tmp 29), some 30, true) := by kernel_rfl
theorem t14_0 : sigOf o14 0 = some (.move (.tmp 1), some 35, true) := by kernel_rfl
theorem t14_1 : sigOf o14 1 = some (.move (.tmp 9), some 36, true) := by kernel_rfl
theorem t14_2 : sigOf o14 2 = some (.indexAddr 55 (.tmp 35) (.tmp 36), some 37, true) := by kernel_rfl
theorem t14_3 : sigOf o14 3 = some (.load 3 (.tmp 37), some 38, true) := by kernel_rfl
theorem t22_0 : sigOf o22 0 = some (.move (.tmp 13), some 57, true) := by kernel_rfl
theorem t22_1 : sigOf o22 1 = some (.move (.tmp 0), some 58, true) := by kernel_rfl
theorem t22_2 : sigOf o22 2 = some (.move (.tmp 9), some 59, true) := by kernel_rfl
theorem t22_3 : sigOf o22 3 = some (.binOp .sub 3 (.tmp 59) (.const (.int .i64 (Int.ofNat 1))) 3, some 60, true) := by kernel_rfl
theorem t22_4 : sigOf o22 4 = some (.move (.tmp 12), some 61, true) := by kernel_rfl
theorem t22_5 : sigOf o22 5 = some (.indexAddr 54 (.tmp 58) (.tmp 60), some 62, true) := by kernel_rfl
theorem t22_6 : sigOf o22 6 = some (.indexAddr 33 (.tmp 62) (.tmp 61), some 63, true) := by kernel_rfl
theorem t22_7 : sigOf o22 7 = some (.load 2 (.tmp 63), some 64, true) := by kernel_rfl
theorem n11 : List.range o11.size = 0 :: 1 :: 2 :: ((List.range (o11.toList.drop 3).length).map (3 + ·) ++ []) := by kernel_rfl
theorem n14 : List.range o14.size = 0 :: 1 :: 2 :: 3 :: ((List.range (o14.toList.drop 4).length).map (4 + ·) ++ []) := by kernel_rfl
theorem n22 : List.range o22.size = 0 :: 1 :: 2 :: 3 :: 4 :: 5 :: 6 :: 7 :: ((List.range (o22.toList.drop 8).length).map (8 + ·) ++ []) := by kernel_rfl
theorem i33 : (Try.prog.info? 33).map (·.size) = some 3 := by kernel_rfl
theorem i3 : (Try.prog.info? 3).map (·.size) = some 1 := by kernel_rfl
theorem i2 : (Try.prog.info? 2).map (·.size) = some 1 := by kernel_rfl
theorem un54 : Try.prog.underlying 54 = some (.slice 33) := by kernel_rfl
theorem un55 : Try.prog.underlying 55 = some (.slice 3) := by kernel_rfl
theorem un33 : Try.prog.underlying 33 = some (.array 3 2) := by kernel_rfl
theorem un3 : Try.prog.underlying 3 = some (.int .i64) := by kernel_rfl
theorem un2 : Try.prog.underlying 2 = some (.int .i64) := by kernel_rfl
theorem info_of {t n : Nat} (h : (Try.prog.info? t).map (·.size) = some n) : ∃ ti, Try.prog.info? t = some ti ∧ ti.size = n := by
  cases hi : Try.prog.info? t with
  | none => rw [hi] at h; cases h
  | some ti => rw [hi] at h; exact ⟨ti, rfl, by simpa using h⟩
section
variable (v g : Value) (n i tk mo : Int) (d : Dr) (u : V3) (gp k m c : Int) (b : Bool)
theorem ok_A0 : okNamed (hdA0 v g) = true := by kernel_rfl
theorem ok_A4 : okNamed (mkSt 103 [0, 1, 4] [v, g, .bool true] [] [] [] 4096 hdH hdT) = true := by kernel_rfl
theorem ok_A5 : okNamed (hdA5 v g) = true := by kernel_rfl
theorem ok_A6 : okNamed (hdA6 v g []) = true := by kernel_rfl
theorem ok_A7 : okNamed (hdA6 v g [(7, .int .i64 0)]) = true := by kernel_rfl
theorem ok_A8 : okNamed (hdA6 v g [(7, .int .i64 0), (8, .int .i64 0)]) = true := by kernel_rfl
theorem ok_S : okNamed (hdS v g n i tk mo d) = true := by kernel_rfl
theorem ok_S10 : okNamed (hdS10 v g n i tk mo d b) = true := by kernel_rfl
theorem ok_J0 : okNamed (hdJ v g n i tk mo d u []) = true := by kernel_rfl
theorem ok_J1 : okNamed (hdJ v g n i tk mo d u [(11, .int .i64 gp)]) = true := by kernel_rfl
theorem ok_J2 : okNamed (hdJ v g n i tk mo d u [(11, .int .i64 gp), (34, .bool b)]) = true := by kernel_rfl
theorem ok_U : okNamed (hdU v g n i tk mo d u gp k []) = true := by kernel_rfl
theorem ok_U6 : okNamed (hdU v g n i tk mo d u gp k [(46, .bool b)]) = true := by kernel_rfl
theorem ok_X : okNamed (hdU v g n i tk mo d u gp k (hdX k m)) = true := by kernel_rfl
theorem ok_X4 : okNamed (hdU v g n i tk mo d u gp k (hdX k m ++ [(4, .bool b)])) = true := by kernel_rfl
theorem ok_X5 : okNamed (hdU v g n i tk mo d u gp k (hdX k m ++ [(56, .bool b)])) = true := by kernel_rfl
theorem ok_C : okNamed (hdU v g n i tk mo d u gp k [(14, .int .i64 c)]) = true := by kernel_rfl
theorem ok_Sf : okNamed (hdSf b v g n i tk mo d) = true := by kernel_rfl
theorem ok_E : okNamed { hdE (.bool true) with lo := hdL } = true := by kernel_rfl
theorem cl_Sf : okClean hdL (hdSf b v g n i tk mo d) = true := by kernel_rfl
theorem cut_Sf : ({ hdSf false v g n i tk mo d with lo := hdL, hi := hdH } : St) = hdS v g n i tk mo d := by kernel_rfl
theorem res_X4 : resA Try.prog (hdU v g n i tk mo d u gp k (hdX k m ++ [(4, .bool true)])) Try.f12.results.toList = some [.val (.bool true)] := by kernel_rfl
theorem res_A4 : resA Try.prog (mkSt 103 [0, 1, 4] [v, g, .bool true] [] [] [] 4096 hdH hdT) Try.f12.results.toList = some [.val (.bool true)] := by kernel_rfl
theorem res_E : resA Try.prog { hdE (.bool true) with lo := hdL } Try.f12.results.toList = some [.val (.bool true)] := by kernel_rfl
theorem len_S10 : (hdS10 v g n i tk mo d b).tmps.length = 103 := by kernel_rfl
theorem len_J2 : (hdJ v g n i tk mo d u [(11, .int .i64 gp), (34, .bool b)]).tmps.length = 103 := by kernel_rfl
theorem len_X5 : (hdU v g n i tk mo d u gp k (hdX k m ++ [(56, .bool b)])).tmps.length = 103 := by kernel_rfl
theorem wk_S10 : dropSt [4096, hd2] (others 103 [0, 1, 24, 25, 26, 7, 8, 5, 6]) (hdS10 v g n i tk mo d b) = hdS v g n i tk mo d := by kernel_rfl
theorem wk_J2 : dropSt hdK (others 103 (11 :: hdB)) (hdJ v g n i tk mo d u [(11, .int .i64 gp), (34, .bool b)]) = hdJ v g n i tk mo d u [(11, .int .i64 gp)] := by kernel_rfl
theorem wk_X5 : dropSt hdK (others 103 hdC) (hdU v g n i tk mo d u gp k (hdX k m ++ [(56, .bool b)])) = hdU v g n i tk mo d u gp k [] := by kernel_rfl
theorem wk_U6 : dropSt hdK (others 103 hdC) (hdU v g n i tk mo d u gp k [(46, .bool b)]) = hdU v g n i tk mo d u gp k [] := by kernel_rfl
end
end Go.Ab
