/- A part of the proof of 'FrameOpens': lemmas, no statement of their own; no condition. -/
import Derived.Test.YtanilhagglikjaaFrJ
/- frame.Wrap: its walk. -/
namespace Go.Ab
open Go Go.Proofs
def bsL (l : List UInt8) : ByteArray := ⟨l.toArray⟩
def bodyL (k : Nat) (d : List UInt8) : List UInt8 := UInt8.ofNat k :: UInt8.ofNat d.length :: d
def wrapL (k : Nat) (d : List UInt8) : List UInt8 := 165 :: (bodyL k d ++ [UInt8.ofNat (crcF (bodyL k d) 65535 / 256), UInt8.ofNat (crcF (bodyL k d) 65535 % 256)])
def wrapV (x : Fr) : Two ByteArray Bool := bif decide (x.kind < 0) || (decide (x.kind > 255) || decide ((x.data.size : Int) > 64)) then ⟨⟨#[]⟩, false⟩ else ⟨bsL (wrapL x.kind.toNat x.data.data.toList), true⟩
def cellsL (l : List UInt8) : List Value := l.map fun b => .int .u8 b.toNat
theorem foldl_pushI : ∀ (l : List UInt8) (r : ByteArray), (l.map (fun b => (b.toNat : Int))).foldl pushI r = ⟨r.data ++ l.toArray⟩
  | [], r => by simp
  | b :: l, r => by
    rw [List.map_cons, List.foldl_cons, foldl_pushI l]
    have e : pushI r (b.toNat : Int) = r.push b := by unfold pushI; rw [Int.toNat_natCast, UInt8.ofNat_toNat]
    rw [e]
    simp [ByteArray.push]
theorem push_bsL (l : List UInt8) : (l.map (fun b => (b.toNat : Int))).foldl pushI ByteArray.empty = bsL l := by
  rw [foldl_pushI]
  show ByteArray.mk (#[] ++ l.toArray) = _
  rw [Array.empty_append]
  rfl
theorem cellsL_eq (l : List UInt8) : cellsL l = (l.map (fun b => (b.toNat : Int))).map (Value.int .u8) := by unfold cellsL; rw [List.map_map]; rfl
/-- What stands of the world at the call's begin. -/
structure Live (W : World) (F : Nat → Prop) (wb : World) : Prop where
  old : ∀ k, k < W.heap.size → F k
  chain : ∀ w'', Keep F wb w'' → Keep (fun k => k < W.heap.size) W w''
theorem Live.start (W : World) : Live W (fun k => k < W.heap.size) W := ⟨fun _ h => h, fun _ h => h⟩
theorem Live.step {W wb w w' : World} {F : Nat → Prop} {N : Nat} {s : St} {a : Act} (h : Live W F wb) (hh : Stand F wb N s a w) (h1 : w'.os = w.os) (h2 : w'.tape = w.tape) (h3 : w'.output = w.output) (hg : w.heap.size ≤ w'.heap.size)
    (hs : ∀ j, j < W.heap.size → w'.heap[j]? = w.heap[j]?) : Live W (Wide F w w') w' := by
  refine ⟨fun k hk => .inl (h.old k hk), fun w'' k => ?_⟩
  have k0 := h.chain w hh.keep
  exact ⟨k.os.trans (h1.trans k0.os), k.tape.trans (h2.trans k0.tape), k.output.trans (h3.trans k0.output), Nat.le_trans k0.grown (Nat.le_trans hg k.grown),
    fun x hx => ⟨hx, (k.frame x (.inl (h.old x hx))).2.trans ((hs x hx).trans (k0.frame x hx).2)⟩⟩
theorem Live.grown {W wb w w' : World} {F : Nat → Prop} {N : Nat} {s : St} {a : Act} (h : Live W F wb) (hh : Stand F wb N s a w) {row : Option Nat} (hg : w.grownBy w' row) (hr : ∀ r, row = some r → W.heap.size ≤ r) : Live W (Wide F w w') w' :=
  h.step hh hg.os hg.tape hg.output hg.size fun j hj => hg.block j (by have := (h.chain w hh.keep).grown; omega) fun e => by have := hr j e.symm; omega
theorem Live.size {W wb w : World} {F : Nat → Prop} {N : Nat} {s : St} {a : Act} (h : Live W F wb) (hh : Stand F wb N s a w) : W.heap.size ≤ w.heap.size := (h.chain w hh.keep).grown
theorem alloc_grown (w : World) (o : Obj) : w.grownBy (w.alloc o) none := ⟨rfl, rfl, rfl, by show w.heap.size ≤ (w.heap.push o).size; rw [Array.size_push]; omega, fun k hk _ => alloc_old w o k hk⟩
theorem owns_keep {w w' : World} {base : Nat} {e : TypeId} {sz : Nat} {v : Value} {n : Nat} {xs : List Value} (h : w.ownsRow base e sz v n xs) (hk : ∀ r, v.ownBlock = some r → w'.heap[r]? = w.heap[r]?) : w'.ownsRow base e sz v n xs := by
  refine ⟨h.1, ?_⟩
  rcases h.2 with h2 | ⟨g, cap, cur, rfl, h3, h4, h5⟩
  · exact .inl h2
  · exact .inr ⟨g, cap, cur, rfl, h3, by rw [hk g rfl]; exact h4, h5⟩
theorem own_form {w : World} {base : Nat} {v : Value} {n : Nat} {xs : List Value} (h : w.ownsRow base 5 1 v n xs) (hn : 0 < n) : ∃ g c cur, v = .slice (some ⟨g, 0, none⟩) n c ∧ n ≤ c ∧ w.heap[g]? = some (.cells cur 5 (0, 0)) ∧ cur.toList.take n = xs := by
  rcases h.2 with ⟨_, h0⟩ | ⟨g, c, cur, e1, e2, e3, e4, _, _, e5⟩
  · omega
  · exact ⟨g, c, cur, e1, e4, e3, by simpa using e5⟩
theorem cells3 (x y : Int) : sliceCells Try.prog 38 3 [(0, .int .u8 (Int.ofNat 165)), (1, .int .u8 x), (2, .int .u8 y)] = some (5, [.int .u8 (Int.ofNat 165), .int .u8 x, .int .u8 y]) := by kernel_rfl
theorem cells2 (x y : Int) : sliceCells Try.prog 38 2 [(0, .int .u8 x), (1, .int .u8 y)] = some (5, [.int .u8 x, .int .u8 y]) := by kernel_rfl
theorem i5b : (Try.prog.info? 5).map (fun i => (i.size, i.bytes)) = some (1, 1) := by kernel_rfl
theorem i5z : ((Try.prog.info? 5).bind (·.zero)) = some (.int .u8 0) := by kernel_rfl
theorem info5 : ∃ ti, Try.prog.info? 5 = some ti ∧ ti.size = 1 ∧ ti.bytes = 1 ∧ ti.zero = some (.int .u8 0) := by
  cases hi : Try.prog.info? 5 with
  | none => have := i5b; rw [hi] at this; cases this
  | some ti =>
    have h1 := i5b
    have h2 := i5z
    rw [hi] at h1 h2
    simp only [Option.map_some, Option.some.injEq, Prod.mk.injEq, Option.bind_some] at h1 h2
    exact ⟨ti, rfl, h1.1, h1.2, h2⟩
theorem ofNat8 {x : Nat} (h : x < 256) : ((UInt8.ofNat x).toNat : Int) = x := by
  rw [UInt8.toNat_ofNat']
  omega
theorem run_cut1 {P : Program} {w : World} {t e : TypeId} {ti : TypeInfo} {g n cap : Nat} (ht : P.underlying t = some (.slice e)) (hi : P.info? e = some ti) (hs : ti.size = 1) (hn : 1 ≤ n) (h1 : 1 < cap) :
    (Instr.sliceAt t (.slice (some ⟨g, 0, none⟩) n cap) (some (.int .i64 1)) none none).run P w = .ok (.slice (some ⟨g, 1, none⟩) (n - 1) (cap - 1)) w := by
  have hb : (0 : Int) ≤ 1 ∧ (1 : Int) ≤ (n : Int) := by omega
  have hne : ¬ cap = 1 := by omega
  have e : (⟨g, 0, none⟩ : Addr).add (1 * 1) = ⟨g, 1, none⟩ := rfl
  simp only [Instr.sliceAt, Instr.slice, Instr.sliceBounds, Instr.sliceBound, asIntOf, Sem.run_bind, Sem.run_pure, run_underlying ht, Result.andThen_ok, if_pos hb, run_sizeOf hi, hs, pure_bind, Option.isSome_none, Int.toNat_one, if_neg hne, Option.map_some, e]
theorem nth5 {l : List Value} {x : Value} (h : x ∈ l) (hl : ∀ u ∈ l, ∃ n, u = .int .u8 n) : x.oneCell' = true := by
  obtain ⟨n, rfl⟩ := hl x h
  rfl
theorem f12_is : Try.prog.funcs[12]? = some Try.f12 := by kernel_rfl
theorem f9_on : (Try.f9.body.isSome && !Try.f9.name == "runtime.NumGoroutine") = true := by kernel_rfl
theorem size_bsL (l : List UInt8) : (bsL l).size = l.length := by show l.toArray.size = _; simp
theorem wrap_bad {w : World} {x : Fr} (hb : wrapV x = ⟨⟨#[]⟩, false⟩) {F : Nat → Prop} {wb : World} (hL : Live w F wb) {a1 : Act} {w1 : World} (h : Stand F wb 44 (wS x.kind x.data [(2, .string ⟨#[]⟩), (3, .bool false)]) a1 w1) :
    bodyPost Try.prog Try.f12 (fun e w' => ∃ v, e = .returned v ∧ RowKit.Below w.heap.size w w' ∧ v = Cod.enc (wrapV x)) .ret a1 w1 := by
  obtain ⟨y1, y2, y3⟩ := h.resultsV (P := Try.prog) (fn := Try.f12) (wqR' ..) (wpk ..)
  exact bodyPost_ret y1 y2 ⟨_, rfl, (hL.chain _ y3).below, by rw [hb]; rfl⟩
theorem wrap_good {w : World} {k : Nat} {s : ByteArray} (hk : k ≤ 255) (hs : s.size ≤ 64) {F : Nat → Prop} {wb : World} (hL : Live w F wb) {a1 : Act} {w1 : World} (h1 : Stand F wb 44 (wS k s []) a1 w1) :
    (Code.seq (.region 3 wO3 false) (.seq (.region 4 wO4 false) (.seq (.region 5 wO5 false) .ret))).wp Try.prog (bodyPost Try.prog Try.f12 (fun e w' => ∃ v, e = .returned v ∧ RowKit.Below w.heap.size w w' ∧ v = .tuple #[.string (bsL (wrapL k s.data.toList)), .bool true])) a1 w1 := by
  have hdl : s.data.toList.length = s.size := rfl
  obtain ⟨ti, hti, ts, tb, tz⟩ := info5
  refine wp_seq (wp_region ?_)
  rw [t3_n]
  refine ops_stand (frCall _) (qf := isSum ([] : Gam)) [4096] _ (wq3 k s) (fun _ _ hj => take_at hj) (ow2 ..) h1 _ fun a2 w2 h2 => ?_
  rw [wrap8, wrap8, Nat.mod_eq_of_lt (by omega), Nat.mod_eq_of_lt (by omega)] at h2
  refine build_stand t3_7 (by omega) (lw2 ..) h2 (vals := [(0, .int .u8 (Int.ofNat 165)), (1, .int .u8 k), (2, .int .u8 s.size)]) ?_ (cells3 _ _) _ fun a3 h3 => ?_
  · have e1 : a2.eval (.tmp 22) = .int .u8 k := h2.eval (t := 22) rfl
    have e2 : a2.eval (.tmp 26) = .int .u8 s.size := h2.eval (t := 26) rfl
    have e0 : a2.eval (.const (.int .u8 (Int.ofNat 165))) = .int .u8 (Int.ofNat 165) := rfl
    simp only [List.map_cons, List.map_nil, e1, e2, e0]
  have L3 := hL.grown h2 (alloc_grown w2 (.cells (List.toArray [.int .u8 (Int.ofNat 165), .int .u8 (k : Int), .int .u8 (s.size : Int)]) 5)) fun _ h => by cases h
  have own3 := owns_alloc w2 5 [.int .u8 (Int.ofNat 165), .int .u8 (k : Int), .int .u8 (s.size : Int)] 3 rfl (by decide)
  generalize hw3 : w2.alloc (.cells (List.toArray [.int .u8 (Int.ofNat 165), .int .u8 (k : Int), .int .u8 (s.size : Int)]) 5) = w3 at h3 L3 own3
  have hsz3 : w3.heap.size = w2.heap.size + 1 := by rw [← hw3]; exact Array.size_push ..
  refine ops_stand (frCall _) (qf := isSum ([] : Gam)) [4096] _ (wq3b k k s.size s (.slice (some ⟨w2.heap.size, 0, none⟩) 3 3)) (fun _ _ hj => mid_at hj) (ow3 ..) h3 _ fun a4 w4 h4 => ?_
  have F2 : Wide F w2 w3 w2.heap.size := .inr ⟨Nat.le_refl _, by omega⟩
  have own4 := owns_keep (w' := w4) own3 fun r hr => by cases hr; exact (h4.keep.frame _ F2).2
  have hb4 : w2.heap.size ≤ w4.heap.size := Nat.le_trans (by omega) h4.keep.grown
  obtain ⟨v5, w5, hr5, own5, g5, n5⟩ := append_fresh_string (P := Try.prog) w4 38 9 0 5 ti v38 v9 hti tz ts tb w2.heap.size _ 3 _ own4 (by omega) s (by simp only [maxLen]; omega) (by omega) hb4
  refine append_stand t3_10 (by omega) (lw3 ..) h4 (v := .slice (some ⟨w2.heap.size, 0, none⟩) 3 3) (u := .string s) (h4.eval (t := 27) rfl) (h4.eval (t := 29) rfl) hr5 g5 (fun r hr => by cases hr; exact F2) _ fun a5 h5 => ?_
  have L5 := L3.grown h4 g5 fun r hr => by cases hr; exact hL.size h2
  obtain ⟨g, c, cur, rfl, hcap, hc5, htk⟩ := own_form own5 (by omega)
  have Fg : Wide (Wide F w2 w3) w4 w5 g := by
    rcases n5 g rfl with h | h
    · cases h; exact .inl F2
    · exact .inr ⟨h, by rw [Array.getElem?_eq_some_iff] at hc5; exact hc5.1⟩
  refine ops_stand (frCall _) (qf := isSum ([] : Gam)) [4096] _ (wq3c k s (.slice (some ⟨w2.heap.size, 0, none⟩) 3 3) (some ⟨g, 0, none⟩) (3 + s.size) c) (fun _ _ hj => drop_at hj) (ow4 ..) h5 [] fun a6 w6 h6 => ?_
  have hc6 : w6.heap[g]? = some (.cells cur 5 (0, 0)) := ((h6.keep.frame _ Fg).2).trans hc5
  generalize hF5 : Wide (Wide F w2 w3) w4 w5 = F5 at *
  refine wp_seq (wp_region ?_)
  rw [t4_n]
  refine move_stand t4_0 (by omega) (lw4 ..) h6 (v := .slice (some ⟨g, 0, none⟩) (3 + s.size) c) (h6.eval (t := 4) rfl) _ fun a7 h7 => ?_
  refine op_here t4_1 (by omega) (by rw [List.length_set]; exact lw4 ..) h7 (v := .slice (some ⟨g, 1, none⟩) (2 + s.size) (c - 1)) (fun o ho => ?_) _ fun a8 h8 => ?_
  · have hx : a7.eval (.tmp 31) = .slice (some ⟨g, 0, none⟩) (3 + s.size) c := h7.eval (t := 31) rfl
    have h1 : a7.eval (.const (.int .i64 (Int.ofNat 1))) = .int .i64 1 := rfl
    have hrun := run_cut1 (P := Try.prog) (w := w6) (g := g) (n := 3 + s.size) (cap := c) v38 hti ts (by omega) (by omega)
    rw [show 3 + s.size - 1 = 2 + s.size by omega] at hrun
    simp only [execOp, ho, hx, h1, Option.map_some, Option.map_none, Sem.run_bind, hrun, Result.andThen_ok, Sem.run_pure]
  have hbody : (cur.toList.drop 1).take (2 + s.size) = ((bodyL k s.data.toList).map (fun b => (b.toNat : Int))).map (Value.int .u8) := by
    rw [List.take_drop, show 1 + (2 + s.size) = 3 + s.size by omega, htk]
    unfold bodyL Lib.strCells
    simp only [List.cons_append, List.nil_append, List.drop_succ_cons, List.drop_zero, List.map_cons, ofNat8 (x := k) (by omega), ofNat8 (x := s.size) (by omega), List.map_map, hdl]
    rfl
  have hstr : (convert 38 9 (.slice (some ⟨g, 1, none⟩) (2 + s.size) (c - 1))).run Try.prog w6 = .ok (.string (bsL (bodyL k s.data.toList))) w6 := by
    rw [bytes_string (g := g) (off := 1) v38 v5 v9 hc6 hbody (by simp [bodyL, hdl]; omega), push_bsL]
  refine op_here t4_2 (by omega) (by rw [List.length_set, List.length_set]; exact lw4 ..) h8 (v := .string (bsL (bodyL k s.data.toList))) (fun o ho => ?_) _ fun a9 h9 => ?_
  · have hx : a8.eval (.tmp 32) = .slice (some ⟨g, 1, none⟩) (2 + s.size) (c - 1) := h8.eval (t := 32) rfl
    simp only [execOp, ho, hx, Sem.run_bind, hstr, Result.andThen_ok, Sem.run_pure]
  have hbl : (bodyL k s.data.toList).length = 2 + s.size := by simp [bodyL, hdl]; omega
  have hxs : a9.eval (.tmp 33) = .string (bsL (bodyL k s.data.toList)) := h9.eval (t := 33) rfl
  refine call_world t4_3 (by omega) (by rw [List.length_set, List.length_set, List.length_set]; exact lw4 ..) h9 rfl f9_is f9_on (args := #[.string (bsL (bodyL k s.data.toList))]) (by simp [cSum, hxs]) (sum_calls (bsL (bodyL k s.data.toList)) (by rw [size_bsL, hbl]; omega) w6) _ fun vc a10 w10 hvc hb10 h10 => ?_
  subst hvc
  have L10 := L5.step h9 hb10.os hb10.tape hb10.output hb10.size fun j hj => hb10.block j (by have := L5.size h9; omega)
  generalize hcr : crcF (bsL (bodyL k s.data.toList)).data.toList 65535 = cr at *
  have hcr' : crcF (bodyL k s.data.toList) 65535 = cr := by rw [← hcr]; simp [bsL]
  have hcl : cr < 65536 := by rw [← hcr']; exact crcF_lt _ _ (by omega)
  refine ops_stand (frCall _) (qf := isSum ([] : Gam)) [4096] _ (wq4 k s (.slice (some ⟨g, 0, none⟩) (3 + s.size) c) (.slice (some ⟨g, 0, none⟩) (3 + s.size) c) (.slice (some ⟨g, 1, none⟩) (2 + s.size) (c - 1)) (.string (bsL (bodyL k s.data.toList))) cr) (fun _ _ hj => drop_at hj) (ow5 ..) h10 [] fun a11 w11 h11 => ?_
  have s6 : w2.heap.size ≤ w6.heap.size := Nat.le_trans hb4 (Nat.le_trans g5.size h6.keep.grown)
  have g6 : g < w6.heap.size := by rw [Array.getElem?_eq_some_iff] at hc6; exact hc6.1
  have hc10 : w10.heap[g]? = some (.cells cur 5 (0, 0)) := (hb10.block g g6).trans hc6
  have F10 : Wide F5 w6 w10 g := .inl Fg
  refine wp_seq (wp_region ?_)
  rw [t5_n]
  refine ops_stand (frCall _) (qf := isSum ([] : Gam)) [4096] _ (wq5 k cr s (some ⟨g, 0, none⟩) (3 + s.size) c) (fun _ _ hj => take_at hj) (ow6 ..) h11 _ fun a12 w12 h12 => ?_
  have e38 : IntKind.u8.wrap ((cr : Int).fdiv (2 ^ 8)) = ((cr / 256 : Nat) : Int) := by rw [shr8, wrap8, Nat.mod_eq_of_lt (by omega)]
  rw [e38, wrap8] at h12
  have hc12 : w12.heap[g]? = some (.cells cur 5 (0, 0)) := ((h12.keep.frame _ F10).2).trans hc10
  refine build_stand t5_6 (by omega) (lw6 ..) h12 (vals := [(0, .int .u8 (cr / 256 : Nat)), (1, .int .u8 (cr % 256 : Nat))]) ?_ (cells2 _ _) _ fun a13 h13 => ?_
  · have e1 : a12.eval (.tmp 38) = .int .u8 (cr / 256 : Nat) := h12.eval (t := 38) rfl
    have e2 : a12.eval (.tmp 40) = .int .u8 (cr % 256 : Nat) := h12.eval (t := 40) rfl
    simp only [List.map_cons, List.map_nil, e1, e2]
  have L13 := L10.grown h12 (alloc_grown w12 (.cells (List.toArray [.int .u8 ((cr / 256 : Nat) : Int), .int .u8 ((cr % 256 : Nat) : Int)]) 5)) fun _ h => by cases h
  have new13 : (w12.alloc (.cells (List.toArray [.int .u8 ((cr / 256 : Nat) : Int), .int .u8 ((cr % 256 : Nat) : Int)]) 5)).heap[w12.heap.size]? = some (.cells (List.toArray [.int .u8 ((cr / 256 : Nat) : Int), .int .u8 ((cr % 256 : Nat) : Int)]) 5 (0, 0)) := by
    show (w12.heap.push _)[w12.heap.size]? = _
    simp
  have g12 : g < w12.heap.size := by rw [Array.getElem?_eq_some_iff] at hc12; exact hc12.1
  have hc13 : (w12.alloc (.cells (List.toArray [.int .u8 ((cr / 256 : Nat) : Int), .int .u8 ((cr % 256 : Nat) : Int)]) 5)).heap[g]? = some (.cells cur 5 (0, 0)) := (alloc_old w12 _ g g12).trans hc12
  have hsz13 : (w12.alloc (.cells (List.toArray [.int .u8 ((cr / 256 : Nat) : Int), .int .u8 ((cr % 256 : Nat) : Int)]) 5)).heap.size = w12.heap.size + 1 := Array.size_push ..
  generalize hw13 : w12.alloc (.cells (List.toArray [.int .u8 ((cr / 256 : Nat) : Int), .int .u8 ((cr % 256 : Nat) : Int)]) 5) = w13 at h13 L13 new13 hc13 hsz13
  have own13 := owns_keep (w' := w13) own5 fun r hr => by cases hr; exact hc13.trans hc5.symm
  have s13 : w2.heap.size ≤ w13.heap.size := by have := hb10.size; have := h12.keep.grown; omega
  obtain ⟨v14, w14, hr14, own14, g14, n14⟩ := append_fresh (P := Try.prog) w13 38 0 5 ti (.int .u8 0) 1 1 v38 hti tz ts tb rfl (by omega) w2.heap.size _ (3 + s.size) _ own13 ⟨w12.heap.size, 0, none⟩ 2 2 [.int .u8 ((cr / 256 : Nat) : Int), .int .u8 ((cr % 256 : Nat) : Int)] rfl
    (fun j u hj => by
      rw [addr_add, Nat.zero_add]
      simp only [World.cell?, new13]
      simpa using hj) (fun u hu => by simp only [List.mem_cons, List.not_mem_nil, or_false] at hu; rcases hu with rfl | rfl <;> rfl) (by simp only [maxLen]; omega) (by omega) s13
  have F13 : Wide (Wide F5 w6 w10) w12 w13 g := .inl F10
  refine append_stand t5_7 (by omega) (by rw [List.length_set]; exact lw6 ..) h13 (v := .slice (some ⟨g, 0, none⟩) (3 + s.size) c) (u := .slice (some ⟨w12.heap.size, 0, none⟩) 2 2) (h13.eval (t := 35) rfl) (h13.eval (t := 41) rfl) hr14 g14 (fun r hr => by cases hr; exact F13) _ fun a14 h14 => ?_
  have L14 := L13.grown h13 g14 fun r hr => by
    cases hr
    rcases n5 g rfl with h | h
    · cases h; exact hL.size h2
    · exact Nat.le_trans (hL.size h2) (Nat.le_trans hb4 h)
  obtain ⟨g2, c2, cur2, rfl, hcap2, hc14, htk2⟩ := own_form own14 (by omega)
  have hbytes : (cur2.toList.drop 0).take (3 + s.size + 2) = ((wrapL k s.data.toList).map (fun b => (b.toNat : Int))).map (Value.int .u8) := by
    rw [List.drop_zero, htk2]
    unfold wrapL
    rw [hcr']
    unfold bodyL Lib.strCells
    simp only [List.cons_append, List.nil_append, List.map_cons, List.map_append, List.map_nil, ofNat8 (x := k) (by omega), hdl, ofNat8 (x := s.size) (by omega), ofNat8 (x := cr / 256) (by omega), ofNat8 (x := cr % 256) (by omega), List.map_map]
    rfl
  have hstr2 : (convert 38 9 (.slice (some ⟨g2, 0, none⟩) (3 + s.size + 2) c2)).run Try.prog w14 = .ok (.string (bsL (wrapL k s.data.toList))) w14 := by
    rw [bytes_string (g := g2) (off := 0) v38 v5 v9 hc14 hbytes (by simp [wrapL, hbl]; omega), push_bsL]
  refine op_here t5_8 (by omega) (by rw [List.length_set, List.length_set]; exact lw6 ..) h14 (v := .string (bsL (wrapL k s.data.toList))) (fun o ho => ?_) _ fun a15 h15 => ?_
  · have hx : a14.eval (.tmp 42) = .slice (some ⟨g2, 0, none⟩) (3 + s.size + 2) c2 := h14.eval (t := 42) rfl
    simp only [execOp, ho, hx, Sem.run_bind, hstr2, Result.andThen_ok, Sem.run_pure]
  refine ops_stand (frCall _) (qf := isSum ([] : Gam)) [] _ (wq5b k (cr / 256 : Nat) (cr % 256 : Nat) s (bsL (wrapL k s.data.toList)) (.slice (some ⟨g, 0, none⟩) (3 + s.size) c) (.slice (some ⟨w12.heap.size, 0, none⟩) 2 2) (.slice (some ⟨g2, 0, none⟩) (3 + s.size + 2) c2)) (fun _ _ hj => drop_at hj) (ow7 ..) h15 [] fun a16 w16 h16 => ?_
  obtain ⟨y1, y2, y3⟩ := h16.resultsV (P := Try.prog) (fn := Try.f12) (wqR ..) (wpk ..)
  exact wp_ret (bodyPost_ret y1 y2 ⟨_, rfl, (L14.chain _ y3).below, rfl⟩)
theorem wrap_calls (x : Fr) (w : World) : Calls Try.prog 12 #[Cod.enc x] w fun e w' => ∃ v, e = .returned v ∧ RowKit.Below w.heap.size w w' ∧ v = Cod.enc (wrapV x) := by
  refine calls_of_wp f12_is wC_is ?_
  have hst := Stand.start (N := 44) [Cod.enc x] w 4096 frH frT (by simp)
  have L0 := Live.start w
  refine wp_seq ((runs_drop frCall _ _ (wq0 x.kind x.data)).stand (ow0 ..) hst fun a1 w1 h1 => ?_)
  have hrun := wq1 x.kind x.data
  by_cases c1 : x.kind < 0
  · rw [decide_eq_true c1, cond_true] at hrun
    exact wp_seq ((runs_drop frCall _ _ hrun).stand (ow1 ..) h1 fun a2 w2 h2 => wrap_bad (by unfold wrapV; rw [decide_eq_true c1]; rfl) L0 h2)
  by_cases c2 : x.kind > 255
  · rw [decide_eq_false c1, cond_false, decide_eq_true c2] at hrun
    exact wp_seq ((runs_drop frCall _ _ hrun).stand (ow1 ..) h1 fun a2 w2 h2 => wrap_bad (by unfold wrapV; rw [decide_eq_false c1, decide_eq_true c2]; rfl) L0 h2)
  by_cases c3 : (x.data.size : Int) > 64
  · rw [decide_eq_false c1, cond_false, decide_eq_false c2, decide_eq_true c3] at hrun
    exact wp_seq ((runs_drop frCall _ _ hrun).stand (ow1 ..) h1 fun a2 w2 h2 => wrap_bad (by unfold wrapV; rw [decide_eq_false c1, decide_eq_false c2, decide_eq_true c3]; rfl) L0 h2)
  rw [decide_eq_false c1, cond_false, decide_eq_false c2, decide_eq_false c3] at hrun
  refine wp_seq ((runs_drop frCall _ _ hrun).stand (ow0 ..) h1 fun a2 w2 h2 => ?_)
  obtain ⟨k, hk⟩ : ∃ k : Nat, x.kind = k := ⟨x.kind.toNat, by omega⟩
  have hv : wrapV x = ⟨bsL (wrapL k x.data.data.toList), true⟩ := by
    unfold wrapV
    rw [decide_eq_false c1, decide_eq_false c2, decide_eq_false c3, hk]
    rfl
  rw [hv]
  have h3 : Stand (fun k => k < w.heap.size) w 44 (wS k x.data []) a2 w2 := by rw [← hk]; exact h2
  exact wrap_good (by omega) (by omega) L0 h3
end Go.Ab
