/- A part of the proof of 'ModeRuns': lemmas, no statement of their own; no condition. -/
import Derived.Test.YtghmnjmcnchinaaLvFine
import Derived.Test.YtghmnjmcnchinaaMaE
/- ModeRuns: plans behind any steps are the document's. -/
namespace Go.Ab
open Go Go.Proofs
def seqL : Code → Code | .seq a _ => a | c => c
def seqR : Code → Code | .seq _ b => b | c => c
def inB : Code → Code | .block _ c => c | .loop c => c | c => c
noncomputable def c4 : Code := Try.f4.body.getD .skip
noncomputable def q0 : Code := seqL c4
noncomputable def q1 : Code := seqL (seqR c4)
noncomputable def q3 : Code := seqL (seqR (seqR c4))
noncomputable def q4 : Code := seqL (seqL (seqR (seqR (seqR c4))))
noncomputable def qE : Code := seqR (seqR (seqR (seqR c4)))
noncomputable def qB : Code := inB (inB (seqR (seqL (seqR (seqR (seqR c4))))))
noncomputable def q5 : Code := seqL qB
noncomputable def qM : Code := inB (seqL (seqR (seqR qB)))
noncomputable def q11 : Code := seqR (seqR (seqR qB))
noncomputable def qI : Code := seqR qM
noncomputable def ops6 : Array Oper := match seqL qM with | .region _ ops _ => ops | _ => #[]
theorem c4_is : Try.f4.body = some (.seq q0 (.seq q1 (.seq q3 (.seq (.seq q4 (.block 0 (.loop qB))) qE)))) := by kernel_rfl
theorem qB_is : qB = .seq q5 (.seq (.cond (.tmp 12) .skip (.exit 0)) (.seq (.block 1 (.seq (.region 6 ops6 false) qI)) q11)) := by kernel_rfl
def ruG (nx : Pl × Sn × Unit → Pl) : Gam := [(8, S0 fun (_ : Unit) => true), (9, S0 nx), (10, S0 nx)]
theorem ruG_ok : GamOk Try.prog (ruG nxt) := .cons ok8 (.cons ok9 (.cons ok10 .nil))
abbrev ruB4 : Nat := 1532495540865888858358347027150309183618739122183606272
abbrev ruLO : Nat := 3064991081731777716716694054300618367237478244367208448
abbrev ruHI : Nat := 1606938044258990275541962092341162602522202993782792835305472
abbrev ruST : Nat := 1532495540865888858358347027150309183618739122183602176
def ruFx : List (Nat × Nat × Nat) := [(3, 4096, 0), (4, ruB4, 0)]
def ruRows : RowsV := [(4096, 23, 6), (ruB4, 23, 6)]
def plCs (p : Pl) : List Value := [.int .i64 p.mode, .int .i64 p.calm, .int .i64 p.good, .int .i64 p.miss, .int .i64 p.lost, .int .i64 p.faults]
def ruAny : Nat → AV := fun _ => .any
def ruA (v : Value) : St := lvSt 48 [0] [] (nums 1 47) [] [v] ruAny 4096 ruHI ruST
def ruB (v : Value) : St := lvSt 48 [0] ruFx (nums 1 2 ++ nums 5 43) ruRows (v :: plCs ⟨0, 0, 0, 0, 0, 0⟩ ++ plCs ⟨0, 0, 0, 0, 0, 0⟩) ruAny ruLO ruHI ruST
def ruGt : List Nat := nums 0 3 ++ (nums 5 4 ++ nums 12 36)
def ruS (v : Value) (n i : Int) (p : Pl) : St := lvSt 48 [9, 10, 11] ruFx ruGt ruRows ([v, .int .i64 n, .int .i64 i] ++ (plCs p ++ plCs p)) ruAny ruLO ruHI ruST
def ruGm : List Nat := nums 0 3 ++ (nums 5 4 ++ nums 13 35)
def ruT (v : Value) (n i : Int) (b : Bool) (p : Pl) : St := lvSt 48 [9, 10, 11, 12] ruFx ruGm ruRows ([v, .int .i64 n, .int .i64 i, .bool b] ++ (plCs p ++ plCs p)) ruAny ruLO ruHI ruST
def snCs (s : Sn) : List Value := [.bool s.gap, .bool s.gyro, .bool s.slow, .bool s.pair, .bool s.lit, .bool s.bad, .bool s.pass, .int .i64 s.order]
def ruI (v : Value) (n i : Int) (p : Pl) (s : Sn) : St := lvSt 48 [9, 10, 11, 5] ((6, ruLO, 0) :: ruFx) (nums 0 3 ++ (nums 7 2 ++ nums 12 36)) ((ruLO, 25, 8) :: ruRows) ([v, .int .i64 n, .int .i64 i, .int .i64 i] ++ (snCs s ++ (plCs p ++ plCs p))) ruAny (ruLO + ruST) ruHI ruST
noncomputable abbrev ruRun (nx : Pl × Sn × Unit → Pl) (c : Code) (s : St) (keep G : List Nat) : Option (Ex × St) := run Try.prog (callN Try.prog { gam := ruG nx } 1) 48 { quiet := isSum (ruG nx) } [] 50 (Ex × St) c s (fun e s => some (e, dropSt keep G s))
theorem r0 (nx : Pl × Sn × Unit → Pl) (v : Value) : ruRun nx q0 ⟨[v].map .val ++ List.replicate (48 - [v].length) (.val undef), [], 4096, ruHI, ruST, []⟩ [] (nums 1 47) = some (.normal, ruA v) := by kernel_rfl
theorem r1 (nx : Pl × Sn × Unit → Pl) (v : Value) : ruRun nx q1 (ruA v) [] (nums 1 47) = some (.normal, ruA v) := by kernel_rfl
theorem r3 (nx : Pl × Sn × Unit → Pl) (v : Value) : ruRun nx q3 (ruA v) [4096, ruB4] (nums 1 2 ++ nums 5 43) = some (.normal, ruB v) := by kernel_rfl
theorem r4 (nx : Pl × Sn × Unit → Pl) (a : Option Addr) (len cap : Nat) : ruRun nx q4 (ruB (.slice a len cap)) [4096, ruB4] ruGt = some (.normal, ruS (.slice a len cap) len 0 ⟨0, 0, 0, 0, 0, 0⟩) := by kernel_rfl
theorem r5 (nx : Pl × Sn × Unit → Pl) (v : Value) (n i : Int) (p : Pl) : ruRun nx q5 (ruS v n i p) [4096, ruB4] ruGm = some (.normal, ruT v n i (decide (i < n)) p) := by kernel_rfl
theorem r11 (nx : Pl × Sn × Unit → Pl) (v : Value) (n i : Int) (p : Pl) : ruRun nx q11 (ruS v n i p) [4096, ruB4] ruGt = some (.normal, ruS v n (IntKind.i64.wrap (i + 1)) p) := by kernel_rfl
def ruE : St := ⟨[.any, .any, .val (.bool true)] ++ List.replicate 45 .any, [], ruLO, ruHI, ruST, []⟩
theorem rE (nx : Pl × Sn × Unit → Pl) (v : Value) (n i : Int) (p : Pl) : ruRun nx qE (ruS v n i p) [] (nums 0 2 ++ nums 3 45) = some (.ret, ruE) := by kernel_rfl
theorem rI (nx : Pl × Sn × Unit → Pl) (v : Value) (n i : Int) (p : Pl) (s : Sn) : ruRun nx qI (ruI v n i p s) [4096, ruB4] ruGt =
    bif i == 500 then some (.exit 0, { ruS v n i p with lo := ruLO + ruST }) else
      let q := nx (p, s, ())
      let r : Option (Ex × St) := some (.ret, { ruS v n i q with lo := ruLO + ruST })
      bif !(q.mode == q.mode && (q.calm == q.calm && (q.good == q.good && (q.miss == q.miss && (q.lost == q.lost && (q.faults == q.faults && true)))))) then r else bif decide (q.mode < 0) then r else bif decide (q.mode > 3) then r else bif decide (q.faults < 0) then r else bif decide (q.faults > 15) then r else
        some (.normal, { ruS v n i q with lo := ruLO + ruST }) := by kernel_rfl
theorem r6 (nx : Pl × Sn × Unit → Pl) (v : Value) (n i : Int) (b : Bool) (p : Pl) (s : Sn) (x : Value) : opsRun Try.prog (callN Try.prog { gam := ruG nx } 1 (Bool × St)) (isSum (ruG nx)) 48 ops6 (ops6.toList.drop 3) { ruT v n i b p with tmps := (((ruT v n i b p).tmps.set 13 (.val (.int .i64 i))).set 14 (.val x)).set 15 (.val (Cod.enc s)) } [] (endOps [ruLO, 4096, ruB4] (nums 0 3 ++ (nums 7 2 ++ nums 12 36))) =
    some (true, ruI v n i p s) := by kernel_rfl
theorem okA (v : Value) : okNamed (ruA v) = true := by kernel_rfl
theorem okB (v : Value) : okNamed (ruB v) = true := by kernel_rfl
theorem okS (v : Value) (n i : Int) (p : Pl) : okNamed (ruS v n i p) = true := by kernel_rfl
theorem okS' (v : Value) (n i : Int) (p : Pl) : okNamed { ruS v n i p with lo := ruLO + ruST } = true := by kernel_rfl
theorem okT (v : Value) (n i : Int) (b : Bool) (p : Pl) : okNamed (ruT v n i b p) = true := by kernel_rfl
theorem okI (v : Value) (n i : Int) (p : Pl) (s : Sn) : okNamed (ruI v n i p s) = true := by kernel_rfl
theorem clS (v : Value) (n i : Int) (p : Pl) : okClean ruLO { ruS v n i p with lo := ruLO + ruST } = true := by kernel_rfl
theorem s6_0 : sigOf ops6 0 = some (.move (.tmp 11), some 13, true) := by kernel_rfl
theorem s6_1 : sigOf ops6 1 = some (.indexAddr 29 (.tmp 9) (.tmp 11), some 14, true) := by kernel_rfl
theorem s6_2 : sigOf ops6 2 = some (.load 25 (.tmp 14), some 15, true) := by kernel_rfl
theorem s6_n : List.range ops6.size = 0 :: 1 :: 2 :: ((List.range (ops6.toList.drop 3).length).map (3 + ·) ++ []) := by kernel_rfl
theorem info25 : (Try.prog.info? 25).map (·.size) = some 8 := by kernel_rfl
theorem lenT (v : Value) (n i : Int) (b : Bool) (p : Pl) : (ruT v n i b p).tmps.length = 48 := by kernel_rfl
/-- The list's elements lie there. -/
def RuList (w0 : World) (a : Option Addr) (len : Nat) (f : Nat → Sn) : Prop := len = 0 ∨ ∃ b, a = some b ∧ ∀ i, i < len → w0.cells? 0 (b.add (i * 8)) 8 = some (snCs (f i))
def PlOk (p : Pl) : Prop := 0 ≤ p.mode ∧ p.mode ≤ 3 ∧ 0 ≤ p.faults ∧ p.faults ≤ 15
theorem orV_ok {f : Int} (h0 : 0 ≤ f) (h1 : f ≤ 15) : (0 ≤ orV f 1 ∧ orV f 1 ≤ 15) ∧ (0 ≤ orV f 2 ∧ orV f 2 ≤ 15) ∧ (0 ≤ orV f 4 ∧ orV f 4 ≤ 15) ∧ (0 ≤ orV f 8 ∧ orV f 8 ≤ 15) := by
  have : ∀ k : Fin 16, (0 ≤ orV (k.val : Int) 1 ∧ orV k.val 1 ≤ 15) ∧ (0 ≤ orV k.val 2 ∧ orV k.val 2 ≤ 15) ∧ (0 ≤ orV k.val 4 ∧ orV k.val 4 ≤ 15) ∧ (0 ≤ orV k.val 8 ∧ orV k.val 8 ≤ 15) := by decide +kernel
  have h := this ⟨f.toNat, by omega⟩
  have e : ((f.toNat : Nat) : Int) = f := by omega
  simp only [e] at h
  exact h
theorem nxt_ok {p : Pl} (h : PlOk p) (s : Sn) : PlOk (nxt (p, s, ())) := by
  obtain ⟨mode, calm, good, miss, lost, faults⟩ := p
  obtain ⟨gap, gyro, slow, pair, lit, bad, pass, order⟩ := s
  obtain ⟨h1, h2, h3, h4⟩ := h
  dsimp only at h1 h2 h3 h4
  obtain ⟨o1, o2, o4, o8⟩ := orV_ok h3 h4
  unfold PlOk nxt nextV fineV
  have hm : mode = 0 ∨ mode = 1 ∨ mode = 2 ∨ mode = 3 := by omega
  dsimp only
  cases order == 1
  · rcases hm with rfl | rfl | rfl | rfl
    · simp only [cond_false, cond_true, Int.reduceBEq]
      cases decide ((bif gyro && slow then cntV calm else 0) ≥ 3) <;> simp [toV, h3, h4]
    · simp only [cond_false, cond_true, Int.reduceBEq]
      cases gap
      · simp only [cond_false]
        cases gyro && !slow
        · simp only [cond_false]
          cases decide ((bif gyro && (pair && lit) then cntV good else 0) ≥ 2) <;> simp [toV, h3, h4]
        · simp [toV, h3, h4]
      · simp [toV, o1]
    · simp only [cond_false, cond_true, Int.reduceBEq]
      cases gap
      · cases bad
        · simp only [cond_false]
          cases decide ((bif gyro then 0 else cntV lost) ≥ 3)
          · simp only [cond_false]
            cases pair && lit
            · simp [h3, h4]
            · simp only [cond_true]
              cases decide ((bif pass then 0 else cntV miss) ≥ 5) <;> simp [toV, h3, h4, o8]
          · simp [toV, o2]
        · simp [toV, o4]
      · simp [toV, o1]
    · simp only [cond_false, cond_true, Int.reduceBEq]
      cases order == 2 <;> simp [toV, h3, h4]
  · simp [toV, h3, h4]
theorem wT (v : Value) (n i : Int) (b : Bool) (p : Pl) : dropSt [4096, ruB4] ruGt (ruT v n i b p) = ruS v n i p := by kernel_rfl
theorem cutS (v : Value) (n i : Int) (p : Pl) : ({ ({ ruS v n i p with lo := ruLO + ruST } : St) with lo := ruLO, hi := ruHI } : St) = ruS v n i p := rfl
theorem ru_round {w0 : World} {a : Option Addr} {len cap : Nat} {f : Nat → Sn} (hl : RuList w0 a len f) {Q : Exit → Act → World → Prop}
    (hQ : ∀ a' w' i p, Stand (fun k => k < w0.heap.size) w0 48 (ruS (.slice a len cap) len i p) a' w' → Q (.exit 0) a' w') :
    ∀ (k i : Nat) (p : Pl) (act : Act) (w : World), i + k = len → i ≤ 500 → PlOk p → Stand (fun k => k < w0.heap.size) w0 48 (ruS (.slice a len cap) len i p) act w → Code.rounds Try.prog qB Q (k + 1) act w := by
  have hcall : ∀ β, CallOk Try.prog (callN Try.prog { gam := ruG nxt } 1 β) := callN_ok (E := { gam := ruG nxt }) ruG_ok 1
  intro k
  induction k with
  | zero =>
    intro i p act w hi _ _ hst
    rw [rounds_succ, qB_is]
    refine wp_seq ((runs_drop hcall _ _ (r5 nxt _ _ _ p)).stand (okT ..) hst fun a1 w1 h1 => ?_)
    have hb : decide ((i : Int) < (len : Int)) = false := decide_eq_false (by omega)
    rw [hb] at h1
    refine wp_seq (wp_cond_false (h1.eval (t := 12) rfl) (wp_exit ?_))
    refine hQ a1 w1 i p (h1.weak ?_ (Nat.le_refl _) (Nat.le_refl _))
    rw [← wT _ _ _ false p]
    exact dropSt_wk _ _ _
  | succ k ih =>
    intro i p act w hi h500 hp hst
    rw [rounds_succ, qB_is]
    refine wp_seq ((runs_drop hcall _ _ (r5 nxt _ _ _ p)).stand (okT ..) hst fun a1 w1 h1 => ?_)
    have hb : decide ((i : Int) < (len : Int)) = true := decide_eq_true (by omega)
    rw [hb] at h1
    refine wp_seq (wp_cond_true (h1.eval (t := 12) rfl) (wp_skip ?_))
    refine wp_seq (wp_block (wp_seq (wp_region ?_)))
    rw [s6_n]
    rcases hl with h0 | ⟨b, rfl, hcells⟩
    · omega
    have hbl : b.block < w0.heap.size := by
      have := World.cells?_block (hcells 0 (by omega)) (by omega)
      simpa [Addr.add] using this
    obtain ⟨ti, hti⟩ : ∃ ti, Try.prog.info? 25 = some ti := by
      cases h : Try.prog.info? 25 with
      | none => have := info25; rw [h] at this; cases this
      | some ti => exact ⟨ti, rfl⟩
    have hsz : ti.size = 8 := by have := info25; rw [hti] at this; simpa using this
    refine move_stand s6_0 (by omega) (lenT ..) h1 (h1.eval (t := 11) rfl) _ fun a2 h2 => ?_
    refine index_stand s6_1 (by omega) (by rw [List.length_set]; exact lenT ..) Try.underlying29 hti h2 (b := b) (len := len) (cap := cap) (i := i) (ik := .i64) (h2.eval (t := 9) rfl) (h2.eval (t := 11) rfl) (by omega) _ fun a3 h3 => ?_
    have hld : (loadVar 25 (b.add (i * ti.size))).run Try.prog w1 = .ok (Cod.enc (f i)) w1 := by
      have hc : w1.cells? 0 (b.add (i * ti.size)) ti.size = some (snCs (f i)) := by
        rw [hsz]
        refine cells_old h1.keep (F := fun k => k < w0.heap.size) ?_ (hcells i (by omega))
        have : (b.add (i * 8)).block = b.block := by unfold Addr.add; split <;> rfl
        rw [this]
        exact hbl
      exact run_loadForeign Try.underlying25 rfl hti hc
    refine load_stand s6_2 (by omega) (by rw [List.length_set, List.length_set]; exact lenT ..) h3 (h3.eval (t := 14) rfl) hld _ fun a4 h4 => ?_
    refine ops_stand (hcall _) (qf := isSum (ruG nxt)) [ruLO, 4096, ruB4] _ (r6 nxt (.slice (some b) len cap) len i true p (f i) _) (fun j o hj => by simpa [Array.getElem?_toList] using hj) (okI ..) h4 [] fun a5 w5 h5 => ?_
    have hrun := rI nxt (.slice (some b) len cap) len i p (f i)
    by_cases h5e : i = 500
    · have e : ((i : Int) == 500) = true := by simp [h5e]
      rw [e, cond_true] at hrun
      refine (runs_drop hcall _ _ hrun).stand (okS' ..) h5 fun a6 w6 h6 => ?_
      refine hQ a6 w6 i p ?_
      have := h6.cut (lo := ruLO) (hi := ruHI) (clS ..)
      rw [cutS] at this
      exact this
    · have e : ((i : Int) == 500) = false := beq_eq_false_iff_ne.2 (by omega)
      have hq := nxt_ok hp (f i)
      obtain ⟨g1, g2, g3, g4⟩ := hq
      dsimp only at hrun
      rw [e, cond_false, BEq.rfl, BEq.rfl, BEq.rfl, BEq.rfl, BEq.rfl, BEq.rfl, decide_eq_false (p := _ < 0) (by omega), decide_eq_false (p := _ > 3) (by omega), decide_eq_false (p := _ < 0) (by omega), decide_eq_false (p := _ > 15) (by omega)] at hrun
      refine (runs_drop hcall _ _ hrun).stand (okS' ..) h5 fun a6 w6 h6 => ?_
      have h7 := h6.cut (lo := ruLO) (hi := ruHI) (clS ..)
      rw [cutS] at h7
      refine (runs_drop hcall _ _ (r11 nxt _ _ _ _)).stand (okS ..) h7 fun a8 w8 h8 => ?_
      have hw : IntKind.i64.wrap ((i : Int) + 1) = ((i + 1 : Nat) : Int) := by rw [wrapM]; omega
      rw [hw] at h8
      exact ih (i + 1) (nxt (p, f i, ())) a8 w8 (by omega) (by omega) (nxt_ok hp (f i)) h8
theorem resE : resA Try.prog ruE Try.f4.results.toList = some [.val (.bool true)] := by kernel_rfl
theorem okE : okNamed ruE = true := by kernel_rfl
theorem ModeRuns_run {w0 : World} {a : Option Addr} {len cap : Nat} {f : Nat → Sn} (hl : RuList w0 a len f) : Calls Try.prog 4 #[.slice a len cap] w0 fun e w' => e = .returned (.bool true) ∧ RowKit.Below w0.heap.size w0 w' := by
  have hcall : ∀ β, CallOk Try.prog (callN Try.prog { gam := ruG nxt } 1 β) := callN_ok (E := { gam := ruG nxt }) ruG_ok 1
  refine calls_of_wp Try.func4 c4_is ?_
  have hst := Stand.start (N := 48) [.slice a len cap] w0 4096 ruHI ruST (by simp)
  refine wp_seq ((runs_drop hcall _ _ (r0 nxt (.slice a len cap))).stand (okA _) hst fun a1 w1 h1 => ?_)
  refine wp_seq ((runs_drop hcall _ _ (r1 nxt _)).stand (okA _) h1 fun a2 w2 h2 => ?_)
  refine wp_seq ((runs_drop hcall _ _ (r3 nxt _)).stand (okB _) h2 fun a3 w3 h3 => ?_)
  refine wp_seq (wp_seq ((runs_drop hcall _ _ (r4 nxt a len cap)).stand (okS ..) h3 fun a4 w4 h4 => ?_))
  refine wp_block (wp_loop_rounds (len + 1) (ru_round hl (fun a' w' i p hS => ?_) len 0 ⟨0, 0, 0, 0, 0, 0⟩ a4 w4 (by omega) (by omega) ⟨by decide, by decide, by decide, by decide⟩ h4))
  refine (runs_drop hcall _ _ (rE nxt _ _ _ _)).stand okE hS fun a5 w5 h5 => ?_
  obtain ⟨h6, h7, h8⟩ := h5.results (P := Try.prog) (fn := Try.f4) resE
  exact bodyPost_ret h6 h7 ⟨rfl, h8.below⟩
theorem ModeRuns_calls (p0 : Option Addr) (n0 c0 : Nat) (w : World) (r0 : RowsAt w [.bool, .bool, .bool, .bool, .bool, .bool, .bool, .int .i64] p0 n0 c0) :
    Calls Try.prog 4 #[.slice p0 n0 c0] w fun e w' => e = .returned (.bool true) ∧ RowKit.Below w.heap.size w w' := by
  obtain ⟨_, _, hr⟩ := r0
  have hf : ∃ f : Nat → Sn, RuList w p0 n0 f := by
    rcases hr with h0 | ⟨b, rfl, hc⟩
    · exact ⟨fun _ => goodV, .inl h0⟩
    · have : ∀ i, ∃ s : Sn, i < n0 → w.cells? 0 (b.add (i * 8)) 8 = some (snCs s) := by
        intro i
        by_cases hi : i < n0
        · obtain ⟨cs, hl, h1⟩ := hc i hi
          simp only [Leafs] at hl
          obtain ⟨a, _, rfl, b', _, rfl, c, _, rfl, d, _, rfl, e, _, rfl, f, _, rfl, g, _, rfl, o, _, rfl, _, rfl⟩ := hl
          exact ⟨⟨a, b', c, d, e, f, g, o⟩, fun _ => h1⟩
        · exact ⟨goodV, fun h => absurd h hi⟩
      exact ⟨fun i => Classical.choose (this i), .inr ⟨b, rfl, fun i hi => Classical.choose_spec (this i) hi⟩⟩
  obtain ⟨f, hf⟩ := hf
  exact ModeRuns_run hf
end Go.Ab
