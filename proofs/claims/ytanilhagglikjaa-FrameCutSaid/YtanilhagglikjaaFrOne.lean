/- A part of the proofs: lemmas, no statement of their own; no condition. -/
import Derived.Test.YtanilhagglikjaaMaAll
import Derived.Lib.ConvBytes
import Derived.Test.YtanilhagglikjaaWrM
import Derived.Test.YtanilhagglikjaaProg
import Derived.Lib.AppendStr
import Derived.Laws.AppendOwn
import Derived.Laws.Slices
import Derived.Laws.Strings
import Derived.Laws.Concat
/- Operations by hand that make or change memory that the frame doesn't own. -/
namespace Go.Ab
open Go
section
variable {P : Program} {N : Nat} {ops : Array Oper} {Q : Exit → Act → World → Prop} {F : Nat → Prop} {w0 : World} {s : St} {a : Act} {w : World}
/-- The frame's own blocks as they were: it stands in the new world. -/
theorem Here.move {σ : Nat → Option Nat} (h : Here N s σ a w) {w' : World} (hgrow : w.heap.size ≤ w'.heap.size) (hsame : ∀ b r, σ b = some r → w'.heap[r]? = w.heap[r]?) : Here N s σ a w' := by
  obtain ⟨⟨u, hf, hs⟩, hn⟩ := h
  refine ⟨⟨u, { hf with row := fun b e cs hb => ?_, obj := fun b o hb => ?_, bound := fun b r hb => Nat.lt_of_lt_of_le (hf.bound b r hb) hgrow, ownsR := fun b _ _ _ _ hr => .inl ⟨b, hr⟩, ownsO := fun b _ _ _ hr => .inl ⟨b, hr⟩, os := rfl, tape := rfl, output := rfl, grown := Nat.le_refl _, frame := fun _ _ _ => rfl }, hs⟩, hn⟩
  · obtain ⟨r, vs, h1, h2, h3⟩ := hf.row b e cs hb
    exact ⟨r, vs, h1, by rw [hsame b r h1]; exact h2, h3⟩
  · obtain ⟨r, o', h1, h2, h3⟩ := hf.obj b o hb
    exact ⟨r, o', h1, by rw [hsame b r h1]; exact h2, h3⟩
theorem Here.put {σ : Nat → Option Nat} (h : Here N s σ a w) {d : Nat} (hd : d < N) (hlen : s.tmps.length = N) {v : AV} {x : Value} (hv : Rel σ v x) : Here N { s with tmps := s.tmps.set d v } σ (a.put (some d) x) w := by
  obtain ⟨⟨u, hf, hs⟩, hn⟩ := h
  refine ⟨⟨upd1 u (.tmp d) (.av v), hf.put hd hv, fun l c h => ?_⟩, hn⟩
  cases l with
  | blk b => simpa [upd1] using hs (.blk b) c h
  | tmp t =>
    by_cases e : t = d
    · subst e
      simp only [St.u, stU, List.getElem?_set_self (by omega : t < s.tmps.length), Option.map_some, Option.some.injEq] at h
      subst h
      simp [upd1]
    · simp only [St.u, stU, List.getElem?_set_ne (Ne.symm e)] at h
      have : upd1 u (.tmp d) (.av v) (.tmp t) = u (.tmp t) := by simp [upd1, e]
      rw [this]
      exact hs _ _ h
/-- The blocks that the frame doesn't own, and those that are new. -/
def Wide (F : Nat → Prop) (w w' : World) : Nat → Prop := fun j => F j ∨ (w.heap.size ≤ j ∧ j < w'.heap.size)
theorem Stand.moved (h : Stand F w0 N s a w) {w' : World} (hgrow : w.heap.size ≤ w'.heap.size) (hsame : ∀ j, j < w.heap.size → ¬ F j → w'.heap[j]? = w.heap[j]?) : Stand (Wide F w w') w' N s a w' := by
  obtain ⟨σ, h1, hk, hF⟩ := h
  have hb : ∀ b r, σ b = some r → r < w.heap.size := by
    obtain ⟨⟨u, hf, _⟩, _⟩ := h1
    exact hf.bound
  refine ⟨σ, h1.move hgrow fun b r hr => hsame r (hb b r hr) (hF b r hr), Keep.refl fun k hk' => ?_, fun b r hr hW => ?_⟩
  · rcases hk' with h2 | h2
    · exact Nat.lt_of_lt_of_le (hk.lt h2) hgrow
    · exact h2.2
  · rcases hW with h2 | h2
    · exact hF b r hr h2
    · have := hb b r hr; omega
theorem Stand.put (h : Stand F w0 N s a w) {d : Nat} (hd : d < N) (hlen : s.tmps.length = N) (v : Value) : Stand F w0 N { s with tmps := s.tmps.set d (.val v) } (a.put (some d) v) w := by
  obtain ⟨σ, h1, h2, h3⟩ := h
  exact ⟨σ, h1.put hd hlen (by simp only [Rel]), h2, h3⟩
/-- An operation that makes or changes what the frame doesn't own. -/
theorem op_world {k d : Nat} {op : Op} (hs : sigOf ops k = some (op, some d, true)) (hd : d < N) (hlen : s.tmps.length = N) (hh : Stand F w0 N s a w) {v : Value} {w' : World}
    (hrun : ∀ o : Oper, o.op = op → (execOp a.eval o).run P w = .ok (.value v) w') (hgrow : w.heap.size ≤ w'.heap.size) (hsame : ∀ j, j < w.heap.size → ¬ F j → w'.heap[j]? = w.heap[j]?) (rest : List Nat)
    (hK : ∀ a', Stand (Wide F w w') w' N { s with tmps := s.tmps.set d (.val v) } a' w' → wpOps P ops Q rest a' w') : wpOps P ops Q (k :: rest) a w := by
  obtain ⟨o, ho, hop, hdst, hg⟩ := sigOf_some hs
  rw [wpOps_cons]
  unfold wpOp
  rw [ho]
  simp only
  rw [if_pos (by simp [Region.wanted, hg])]
  refine .inl ?_
  unfold Oper.wp
  rw [hrun o hop, Oper.upon_value, hdst]
  exact hK _ ((hh.moved hgrow hsame).put hd hlen v)
/-- An operation that leaves the world. -/
theorem op_here {k d : Nat} {op : Op} (hs : sigOf ops k = some (op, some d, true)) (hd : d < N) (hlen : s.tmps.length = N) (hh : Stand F w0 N s a w) {v : Value}
    (hrun : ∀ o : Oper, o.op = op → (execOp a.eval o).run P w = .ok (.value v) w) (rest : List Nat)
    (hK : ∀ a', Stand F w0 N { s with tmps := s.tmps.set d (.val v) } a' w → wpOps P ops Q rest a' w) : wpOps P ops Q (k :: rest) a w := by
  obtain ⟨o, ho, hop, hdst, hg⟩ := sigOf_some hs
  exact op_stand ho hg hdst hd hlen hh (hrun o hop) rest hK
/-- A call, by what is known of it. -/
theorem call_world {k d f : Nat} {c : Call} {fn : Func} (hs : sigOf ops k = some (.call c, some d, true)) (hd : d < N) (hlen : s.tmps.length = N) (hh : Stand F w0 N s a w) (hcal : c.callee = .value (.func f)) (hfn : P.funcs[f]? = some fn) (hb : (fn.body.isSome && !fn.name == "runtime.NumGoroutine") = true)
    {args : Array Value} (hargs : c.args.map a.eval = args) {X : Value → World → Prop} (hc : Calls P f args w fun e w' => ∃ v, e = .returned v ∧ RowKit.Below w.heap.size w w' ∧ X v w') (rest : List Nat)
    (hK : ∀ v a' w', X v w' → RowKit.Below w.heap.size w w' → Stand (Wide F w w') w' N { s with tmps := s.tmps.set d (.val v) } a' w' → wpOps P ops Q rest a' w') : wpOps P ops Q (k :: rest) a w := by
  obtain ⟨o, ho, hop, hdst, hg⟩ := sigOf_some hs
  rw [wpOps_cons]
  unfold wpOp
  rw [ho]
  simp only
  rw [if_pos (by simp [Region.wanted, hg])]
  refine .inl ?_
  unfold Oper.wp
  have hexec : (execOp a.eval o).run P w = .ok (.enter f args) w := by
    have e : a.eval (.func f) = .func (.func f) #[] #[] := rfl
    simp only [execOp, hop, resolve, hcal, e, Deferred.ofValue, Sem.run_bind, Sem.run_pure, Result.andThen_ok, invoke, run_callFunc hfn hb, hargs, Array.empty_append, Array.append_empty]
  rw [hexec]
  simp only [Oper.upon]
  refine Calls.mono hc fun e w' he => ?_
  obtain ⟨v, rfl, h1, h2⟩ := he
  simp only
  rw [hdst]
  exact hK v _ w' h2 h1 ((hh.moved h1.size fun j hj _ => h1.block j hj).put hd hlen v)
theorem hget_own {H : Hp} {b : Nat} {c : Con} {s : St} (hs : s.heap = H) (h : hget H b = some c) : s.u (.blk b) = some c := by subst hs; exact h
/-- The place of a part of an own array. -/
theorem own_index {k d : Nat} {t elem : TypeId} {n : Nat} {x ix : Nat} {ti : TypeInfo} (hs : sigOf ops k = some (.indexAddr t (.tmp x) (.tmp ix), some d, true)) (hd : d < N) (hlen : s.tmps.length = N) (hu : P.underlying t = some (.array n elem)) (hi : P.info? elem = some ti) (h1 : ti.size = 1)
    (hh : Stand F w0 N s a w) {b j : Nat} {ik : IntKind} (hx : s.tmps[x]? = some (.ptr b 0)) (hix : s.tmps[ix]? = some (.val (.int ik j))) (hlt : j < n) (rest : List Nat)
    (hK : ∀ a', Stand F w0 N { s with tmps := s.tmps.set d (.ptr b j) } a' w → wpOps P ops Q rest a' w) : wpOps P ops Q (k :: rest) a w := by
  have hjx := hh.eval hix
  obtain ⟨o, ho, hop, hdst, hg⟩ := sigOf_some hs
  obtain ⟨σ, h2, h3, h4⟩ := hh
  obtain ⟨y, hy, hrel⟩ := h2.tmp hx
  simp only [Rel] at hrel
  obtain ⟨r, hr, rfl⟩ := hrel
  rw [wpOps_cons]
  unfold wpOp
  rw [ho]
  simp only
  rw [if_pos (by simp [Region.wanted, hg])]
  refine .inl ?_
  unfold Oper.wp
  have hxe : a.eval (.tmp x) = .pointer (some ⟨r, 0, none⟩) := by simp [Act.eval, hy]
  have hb : 0 ≤ (j : Int) ∧ (j : Int) < (n : Int) := by omega
  have hrun : (execOp a.eval o).run P w = .ok (.value (.pointer (some ⟨r, j, none⟩))) w := by
    simp only [execOp, hop, Instr.indexAt, hjx, asIntOf, Sem.run_bind, run_underlying hu, Result.andThen_ok, hxe, Instr.sureAddr, Sem.run_pure, Sem.run_ite, if_pos hb, run_sizeOf hi, Int.toNat_natCast, h1, Nat.mul_one, addr_add, Nat.zero_add]
  rw [hrun, Oper.upon_value, hdst]
  exact hK _ ⟨σ, h2.put hd hlen (by simp only [Rel]; exact ⟨r, hr, rfl⟩), h3, h4⟩
/-- What lies there. -/
theorem own_load {k d : Nat} {t : TypeId} {x : Nat} {td : TypeDesc} (hs : sigOf ops k = some (.load t (.tmp x), some d, true)) (hd : d < N) (hlen : s.tmps.length = N) (hu : P.underlying t = some td) (hag : isAggD td = false)
    (hh : Stand F w0 N s a w) {b j e : Nat} {cs : List AV} {v : Value} (hx : s.tmps[x]? = some (.ptr b j)) (hrow : hget s.heap b = some (.row e cs)) (hv : cs[j]? = some (.val v)) (rest : List Nat)
    (hK : ∀ a', Stand F w0 N { s with tmps := s.tmps.set d (.val v) } a' w → wpOps P ops Q rest a' w) : wpOps P ops Q (k :: rest) a w := by
  obtain ⟨σ, h2, h3, h4⟩ := hh
  obtain ⟨y, hy, hrel⟩ := h2.tmp hx
  simp only [Rel] at hrel
  obtain ⟨r, hr, rfl⟩ := hrel
  have hxe : a.eval (.tmp x) = .pointer (some ⟨r, j, none⟩) := by simp [Act.eval, hy]
  have hcell : w.cell? ⟨r, j, none⟩ = some v := by
    obtain ⟨⟨u, hf, hsub⟩, _⟩ := h2
    obtain ⟨r', vs, h5, h6, h7⟩ := hf.row b e cs (hsub _ _ (hget_own rfl hrow))
    rw [hr] at h5
    cases h5
    obtain ⟨z, hz, hzr⟩ := Rels.get h7 hv
    simp only [Rel] at hzr
    subst hzr
    simp [World.cell?, h6, hz]
  refine load_stand hs hd hlen ⟨σ, h2, h3, h4⟩ hxe (run_loadScalar hu hag hcell) rest hK
end
end Go.Ab
/- The sum, plain: bytes by the table are bytes bit by bit. -/
namespace Go.Ab
open Go
def xorV (k : IntKind) (a b : Int) : Int := k.wrap ↑(BitVec.ofInt k.bits a ^^^ BitVec.ofInt k.bits b).toNat
theorem wrap8 (x : Nat) : IntKind.u8.wrap (x : Int) = ((x % 256 : Nat) : Int) := by
  simp [IntKind.wrap, IntKind.bits, IntKind.signed]
theorem wrap16 (x : Nat) : IntKind.u16.wrap (x : Int) = ((x % 65536 : Nat) : Int) := by
  simp [IntKind.wrap, IntKind.bits, IntKind.signed]
theorem xor8 {a b : Nat} (ha : a < 256) (hb : b < 256) : xorV .u8 a b = ((a ^^^ b : Nat) : Int) := by
  have h : a ^^^ b < 2 ^ 8 := Nat.xor_lt_two_pow (by omega) (by omega)
  have e : (BitVec.ofInt IntKind.u8.bits (a : Int) ^^^ BitVec.ofInt IntKind.u8.bits (b : Int)).toNat = a ^^^ b := by
    show (BitVec.ofInt 8 (a : Int) ^^^ BitVec.ofInt 8 (b : Int)).toNat = _
    rw [BitVec.ofInt_natCast, BitVec.ofInt_natCast, BitVec.toNat_xor, BitVec.toNat_ofNat, BitVec.toNat_ofNat, Nat.mod_eq_of_lt (by omega), Nat.mod_eq_of_lt (by omega)]
  unfold xorV
  rw [e, wrap8, Nat.mod_eq_of_lt (by omega)]
theorem xor16 {a b : Nat} (ha : a < 65536) (hb : b < 65536) : xorV .u16 a b = ((a ^^^ b : Nat) : Int) := by
  have h : a ^^^ b < 2 ^ 16 := Nat.xor_lt_two_pow (by omega) (by omega)
  have e : (BitVec.ofInt IntKind.u16.bits (a : Int) ^^^ BitVec.ofInt IntKind.u16.bits (b : Int)).toNat = a ^^^ b := by
    show (BitVec.ofInt 16 (a : Int) ^^^ BitVec.ofInt 16 (b : Int)).toNat = _
    rw [BitVec.ofInt_natCast, BitVec.ofInt_natCast, BitVec.toNat_xor, BitVec.toNat_ofNat, BitVec.toNat_ofNat, Nat.mod_eq_of_lt (by omega), Nat.mod_eq_of_lt (by omega)]
  unfold xorV
  rw [e, wrap16, Nat.mod_eq_of_lt (by omega)]
/-- One bit, and eight. -/
def sh1 (r : Nat) : Nat := (r * 2 % 65536) ^^^ (r / 32768 * 4129)
def sh8 (r : Nat) : Nat := sh1 (sh1 (sh1 (sh1 (sh1 (sh1 (sh1 (sh1 r)))))))
theorem sh1_lt {r : Nat} (h : r < 65536) : sh1 r < 65536 := by
  unfold sh1
  have h2 : r / 32768 * 4129 < 65536 := by
    have : r / 32768 < 2 := by omega
    omega
  exact Nat.xor_lt_two_pow (n := 16) (by omega) h2
theorem sh8_lt {r : Nat} (h : r < 65536) : sh8 r < 65536 := by
  unfold sh8
  exact sh1_lt (sh1_lt (sh1_lt (sh1_lt (sh1_lt (sh1_lt (sh1_lt (sh1_lt h)))))))
theorem div_xor {a b : Nat} : (a ^^^ b) / 32768 = (a / 32768) ^^^ (b / 32768) := by
  have e : ∀ x : Nat, x / 32768 = x >>> 15 := fun x => by rw [Nat.shiftRight_eq_div_pow]
  rw [e, e, e, Nat.shiftRight_xor_distrib]
theorem dbl_xor {a b : Nat} : (a ^^^ b) * 2 % 65536 = (a * 2 % 65536) ^^^ (b * 2 % 65536) := by
  have e : ∀ x : Nat, x * 2 % 65536 = (x <<< 1) % 2 ^ 16 := fun x => by rw [Nat.shiftLeft_eq]
  rw [e, e, e, Nat.shiftLeft_xor_distrib, Nat.xor_mod_two_pow]
theorem xor4 (x y z v : Nat) : (x ^^^ y) ^^^ (z ^^^ v) = (x ^^^ z) ^^^ (y ^^^ v) := by rw [Nat.xor_assoc, ← Nat.xor_assoc y z v, Nat.xor_comm y z, Nat.xor_assoc z y v, ← Nat.xor_assoc x z]
theorem xor3 {r z y w : Nat} (h : r = z ^^^ y) : r ^^^ w = z ^^^ (y ^^^ w) := by rw [h, Nat.xor_assoc]
theorem sh1_xor {a b : Nat} (ha : a < 65536) (hb : b < 65536) : sh1 (a ^^^ b) = sh1 a ^^^ sh1 b := by
  unfold sh1
  rw [div_xor, dbl_xor]
  have h1 : a / 32768 = 0 ∨ a / 32768 = 1 := by omega
  have h2 : b / 32768 = 0 ∨ b / 32768 = 1 := by omega
  have key : ((a / 32768) ^^^ (b / 32768)) * 4129 = (a / 32768 * 4129) ^^^ (b / 32768 * 4129) := by
    rcases h1 with h1 | h1 <;> rcases h2 with h2 | h2 <;> rw [h1, h2] <;> rfl
  rw [key]
  exact xor4 _ _ _ _
theorem sh8_xor {a b : Nat} (ha : a < 65536) (hb : b < 65536) : sh8 (a ^^^ b) = sh8 a ^^^ sh8 b := by
  unfold sh8
  have l1 : ∀ {x : Nat}, x < 65536 → sh1 x < 65536 := sh1_lt
  rw [sh1_xor ha hb, sh1_xor (l1 ha) (l1 hb), sh1_xor (l1 (l1 ha)) (l1 (l1 hb)), sh1_xor (l1 (l1 (l1 ha))) (l1 (l1 (l1 hb))), sh1_xor (l1 (l1 (l1 (l1 ha)))) (l1 (l1 (l1 (l1 hb)))),
    sh1_xor (l1 (l1 (l1 (l1 (l1 ha))))) (l1 (l1 (l1 (l1 (l1 hb))))), sh1_xor (l1 (l1 (l1 (l1 (l1 (l1 ha)))))) (l1 (l1 (l1 (l1 (l1 (l1 hb)))))), sh1_xor (l1 (l1 (l1 (l1 (l1 (l1 (l1 ha))))))) (l1 (l1 (l1 (l1 (l1 (l1 (l1 hb)))))))]
theorem sh8_low : ∀ x : Fin 256, sh8 x.val = x.val * 256 := by decide +kernel
/-- One byte by the table, and bit by bit. -/
def stT (r c : Nat) : Nat := (r * 256 % 65536) ^^^ sh8 ((r / 256 ^^^ c) * 256)
def stR (r c : Nat) : Nat := sh8 (r ^^^ (c * 256))
theorem st_eq {r c : Nat} (hr : r < 65536) (hc : c < 256) : stT r c = stR r c := by
  have e : r ^^^ (c * 256) = (r % 256) ^^^ ((r / 256 ^^^ c) * 256) := by
    have h1 : r = (r % 256) ^^^ (r / 256 * 256) := by
      have h2 : r % 256 < 2 ^ 8 := by omega
      have := Nat.two_pow_add_eq_or_of_lt h2 (r / 256)
      apply Nat.eq_of_testBit_eq
      intro i
      rw [Nat.testBit_xor]
      have e1 : r % 256 = r % 2 ^ 8 := rfl
      have e2 : r / 256 * 256 = (r >>> 8) <<< 8 := by rw [Nat.shiftLeft_eq, Nat.shiftRight_eq_div_pow]
      rw [e1, e2, Nat.testBit_mod_two_pow, Nat.testBit_shiftLeft, Nat.testBit_shiftRight]
      by_cases hi : i < 8
      · simp [hi, show ¬ 8 ≤ i by omega]
      · simp [hi, show 8 ≤ i by omega, show 8 + (i - 8) = i by omega]
    have h3 : (r / 256 ^^^ c) * 256 = (r / 256 * 256) ^^^ (c * 256) := by
      have e : ∀ x : Nat, x * 256 = x <<< 8 := fun x => by rw [Nat.shiftLeft_eq]
      rw [e, e, e, Nat.shiftLeft_xor_distrib]
    rw [h3]
    exact xor3 h1
  have hx : r / 256 ^^^ c < 2 ^ 8 := Nat.xor_lt_two_pow (by omega) (by omega)
  unfold stT stR
  rw [e, sh8_xor (by omega) (by omega)]
  have := sh8_low ⟨r % 256, by omega⟩
  simp only at this
  rw [this]
  congr 1
  omega
theorem st_lt {r c : Nat} (hr : r < 65536) (hc : c < 256) : stR r c < 65536 := by
  unfold stR
  exact sh8_lt (Nat.xor_lt_two_pow (n := 16) (by omega) (by omega))
/-- The sum of bytes. -/
def crcR (l : List UInt8) : Nat := l.foldl (fun r b => stR r b.toNat) 65535
def crcF (l : List UInt8) (r : Nat) : Nat := l.foldl (fun r b => stR r b.toNat) r
theorem crcF_lt : ∀ (l : List UInt8) (r : Nat), r < 65536 → crcF l r < 65536
  | [], r, h => h
  | b :: l, r, h => by
    unfold crcF
    rw [List.foldl_cons]
    exact crcF_lt l _ (st_lt h b.toNat_lt)
end Go.Ab
/- frame.table: its walk. -/
namespace Go.Ab
open Go Go.Proofs
def others (N : Nat) (ts : List Nat) : List Nat := (nums 0 N).filter fun i => !hasN ts i
def anyA : Nat → AV := fun _ => .any
def mkSt (N : Nat) (sl : List Nat) (vs : List Value) (fx : List (Nat × Nat × Nat)) (rows : RowsV) (rv : List Value) (lo hi st : Nat) : St := lvSt N sl fx (others N (sl ++ fx.map (·.1))) rows (vs ++ rv) anyA lo hi st
abbrev fr2 : Nat := 1532495540865888858358347027150309183618739122183606272
abbrev frL : Nat := 3064991081731777716716694054300618367237478244367208448
abbrev frH : Nat := 1606938044258990275541962092341162602522202993782792835305472
abbrev frT : Nat := 1532495540865888858358347027150309183618739122183602176
noncomputable abbrev frRun (G : Gam) (N : Nat) (c : Code) (s : St) (keep : List Nat) (ts : List Nat) : Option (Ex × St) := run Try.prog (callN Try.prog { gam := G } 1) N { quiet := isSum G } [] 50 (Ex × St) c s (fun e s => some (e, dropSt keep (others N ts) s))
noncomputable def tC : Code := Try.f19.body.getD .skip
noncomputable def tc0 : Code := seqL tC
noncomputable def tc1 : Code := seqL (seqR tC)
noncomputable def tc2 : Code := seqL (seqL (seqR (seqR tC)))
noncomputable def tB : Code := inB (inB (seqR (seqL (seqR (seqR tC)))))
noncomputable def tcE : Code := seqR (seqR (seqR tC))
theorem tC_is : Try.f19.body = some (.seq tc0 (.seq tc1 (.seq (.seq tc2 (.block 0 (.loop tB))) tcE))) := by kernel_rfl
def tabN : List Nat := (nums 0 256).map fun i => sh8 (i * 256)
def u16s (l : List Nat) : List Value := l.map fun (x : Nat) => .int .u16 x
def tZ (k : Nat) : List Value := List.replicate k (.int .u16 0)
def tS (i : Nat) : St := mkSt 24 [4] [.int .i64 i] [(0, 4096, 0), (1, fr2, 0)] [(4096, 40, 256), (fr2, 40, 256)] (tZ 256 ++ (u16s (tabN.take i) ++ tZ (256 - i))) frL frH frT
theorem tb0 : frRun [] 24 tc0 ⟨([] : List Value).map .val ++ List.replicate (24 - ([] : List Value).length) (.val undef), [], 4096, frH, frT, []⟩ [4096] [0] = some (.normal, mkSt 24 [] [] [(0, 4096, 0)] [(4096, 40, 256)] (tZ 256) fr2 frH frT) := by kernel_rfl
theorem tb1 : frRun [] 24 tc1 (mkSt 24 [] [] [(0, 4096, 0)] [(4096, 40, 256)] (tZ 256) fr2 frH frT) [4096, fr2] [0, 1] = some (.normal, mkSt 24 [] [] [(0, 4096, 0), (1, fr2, 0)] [(4096, 40, 256), (fr2, 40, 256)] (tZ 256 ++ tZ 256) frL frH frT) := by kernel_rfl
theorem tb2 : frRun [] 24 tc2 (mkSt 24 [] [] [(0, 4096, 0), (1, fr2, 0)] [(4096, 40, 256), (fr2, 40, 256)] (tZ 256 ++ tZ 256) frL frH frT) [4096, fr2] [0, 1, 4] = some (.normal, tS 0) := by kernel_rfl
/-- The round of each. -/
noncomputable def tRound (i : Nat) : Option (Ex × St) := frRun [] 24 tB (tS i) [4096, fr2] [0, 1, 4]
theorem tr_0 : (nums 0 8).map (fun i => (tRound i, okNamed (tS (i + 1)))) = (nums 0 8).map fun i => (some (.normal, tS (i + 1)), true) := by kernel_rfl
theorem tr_1 : (nums 8 8).map (fun i => (tRound i, okNamed (tS (i + 1)))) = (nums 8 8).map fun i => (some (.normal, tS (i + 1)), true) := by kernel_rfl
theorem tr_2 : (nums 16 8).map (fun i => (tRound i, okNamed (tS (i + 1)))) = (nums 16 8).map fun i => (some (.normal, tS (i + 1)), true) := by kernel_rfl
theorem tr_3 : (nums 24 8).map (fun i => (tRound i, okNamed (tS (i + 1)))) = (nums 24 8).map fun i => (some (.normal, tS (i + 1)), true) := by kernel_rfl
theorem tr_4 : (nums 32 8).map (fun i => (tRound i, okNamed (tS (i + 1)))) = (nums 32 8).map fun i => (some (.normal, tS (i + 1)), true) := by kernel_rfl
theorem tr_5 : (nums 40 8).map (fun i => (tRound i, okNamed (tS (i + 1)))) = (nums 40 8).map fun i => (some (.normal, tS (i + 1)), true) := by kernel_rfl
theorem tr_6 : (nums 48 8).map (fun i => (tRound i, okNamed (tS (i + 1)))) = (nums 48 8).map fun i => (some (.normal, tS (i + 1)), true) := by kernel_rfl
theorem tr_7 : (nums 56 8).map (fun i => (tRound i, okNamed (tS (i + 1)))) = (nums 56 8).map fun i => (some (.normal, tS (i + 1)), true) := by kernel_rfl
theorem tr_8 : (nums 64 8).map (fun i => (tRound i, okNamed (tS (i + 1)))) = (nums 64 8).map fun i => (some (.normal, tS (i + 1)), true) := by kernel_rfl
theorem tr_9 : (nums 72 8).map (fun i => (tRound i, okNamed (tS (i + 1)))) = (nums 72 8).map fun i => (some (.normal, tS (i + 1)), true) := by kernel_rfl
theorem tr_10 : (nums 80 8).map (fun i => (tRound i, okNamed (tS (i + 1)))) = (nums 80 8).map fun i => (some (.normal, tS (i + 1)), true) := by kernel_rfl
theorem tr_11 : (nums 88 8).map (fun i => (tRound i, okNamed (tS (i + 1)))) = (nums 88 8).map fun i => (some (.normal, tS (i + 1)), true) := by kernel_rfl
theorem tr_12 : (nums 96 8).map (fun i => (tRound i, okNamed (tS (i + 1)))) = (nums 96 8).map fun i => (some (.normal, tS (i + 1)), true) := by kernel_rfl
theorem tr_13 : (nums 104 8).map (fun i => (tRound i, okNamed (tS (i + 1)))) = (nums 104 8).map fun i => (some (.normal, tS (i + 1)), true) := by kernel_rfl
theorem tr_14 : (nums 112 8).map (fun i => (tRound i, okNamed (tS (i + 1)))) = (nums 112 8).map fun i => (some (.normal, tS (i + 1)), true) := by kernel_rfl
theorem tr_15 : (nums 120 8).map (fun i => (tRound i, okNamed (tS (i + 1)))) = (nums 120 8).map fun i => (some (.normal, tS (i + 1)), true) := by kernel_rfl
theorem tr_16 : (nums 128 8).map (fun i => (tRound i, okNamed (tS (i + 1)))) = (nums 128 8).map fun i => (some (.normal, tS (i + 1)), true) := by kernel_rfl
theorem tr_17 : (nums 136 8).map (fun i => (tRound i, okNamed (tS (i + 1)))) = (nums 136 8).map fun i => (some (.normal, tS (i + 1)), true) := by kernel_rfl
theorem tr_18 : (nums 144 8).map (fun i => (tRound i, okNamed (tS (i + 1)))) = (nums 144 8).map fun i => (some (.normal, tS (i + 1)), true) := by kernel_rfl
theorem tr_19 : (nums 152 8).map (fun i => (tRound i, okNamed (tS (i + 1)))) = (nums 152 8).map fun i => (some (.normal, tS (i + 1)), true) := by kernel_rfl
theorem tr_20 : (nums 160 8).map (fun i => (tRound i, okNamed (tS (i + 1)))) = (nums 160 8).map fun i => (some (.normal, tS (i + 1)), true) := by kernel_rfl
theorem tr_21 : (nums 168 8).map (fun i => (tRound i, okNamed (tS (i + 1)))) = (nums 168 8).map fun i => (some (.normal, tS (i + 1)), true) := by kernel_rfl
theorem tr_22 : (nums 176 8).map (fun i => (tRound i, okNamed (tS (i + 1)))) = (nums 176 8).map fun i => (some (.normal, tS (i + 1)), true) := by kernel_rfl
theorem tr_23 : (nums 184 8).map (fun i => (tRound i, okNamed (tS (i + 1)))) = (nums 184 8).map fun i => (some (.normal, tS (i + 1)), true) := by kernel_rfl
theorem tr_24 : (nums 192 8).map (fun i => (tRound i, okNamed (tS (i + 1)))) = (nums 192 8).map fun i => (some (.normal, tS (i + 1)), true) := by kernel_rfl
theorem tr_25 : (nums 200 8).map (fun i => (tRound i, okNamed (tS (i + 1)))) = (nums 200 8).map fun i => (some (.normal, tS (i + 1)), true) := by kernel_rfl
theorem tr_26 : (nums 208 8).map (fun i => (tRound i, okNamed (tS (i + 1)))) = (nums 208 8).map fun i => (some (.normal, tS (i + 1)), true) := by kernel_rfl
theorem tr_27 : (nums 216 8).map (fun i => (tRound i, okNamed (tS (i + 1)))) = (nums 216 8).map fun i => (some (.normal, tS (i + 1)), true) := by kernel_rfl
theorem tr_28 : (nums 224 8).map (fun i => (tRound i, okNamed (tS (i + 1)))) = (nums 224 8).map fun i => (some (.normal, tS (i + 1)), true) := by kernel_rfl
theorem tr_29 : (nums 232 8).map (fun i => (tRound i, okNamed (tS (i + 1)))) = (nums 232 8).map fun i => (some (.normal, tS (i + 1)), true) := by kernel_rfl
theorem tr_30 : (nums 240 8).map (fun i => (tRound i, okNamed (tS (i + 1)))) = (nums 240 8).map fun i => (some (.normal, tS (i + 1)), true) := by kernel_rfl
theorem tr_31 : (nums 248 8).map (fun i => (tRound i, okNamed (tS (i + 1)))) = (nums 248 8).map fun i => (some (.normal, tS (i + 1)), true) := by kernel_rfl
theorem tr_end : frRun [] 24 tB (tS 256) [4096, fr2] [0, 1] = some (.exit 0, mkSt 24 [] [] [(0, 4096, 0), (1, fr2, 0)] [(4096, 40, 256), (fr2, 40, 256)] (tZ 256 ++ u16s tabN) frL frH frT) := by kernel_rfl
theorem tbE : frRun [] 24 tcE (mkSt 24 [] [] [(0, 4096, 0), (1, fr2, 0)] [(4096, 40, 256), (fr2, 40, 256)] (tZ 256 ++ u16s tabN) frL frH frT) [4096] [0] = some (.ret, mkSt 24 [] [] [(0, 4096, 0)] [(4096, 40, 256)] (u16s tabN) frL frH frT) := by kernel_rfl
theorem tRes : resA Try.prog (mkSt 24 [] [] [(0, 4096, 0)] [(4096, 40, 256)] (u16s tabN) frL frH frT) Try.f19.results.toList = some [.val (.agg (List.toArray (u16s tabN)))] := by kernel_rfl
theorem tOk0 : okNamed (mkSt 24 [] [] [(0, 4096, 0)] [(4096, 40, 256)] (tZ 256) fr2 frH frT) = true := by kernel_rfl
theorem tOk1 : okNamed (mkSt 24 [] [] [(0, 4096, 0), (1, fr2, 0)] [(4096, 40, 256), (fr2, 40, 256)] (tZ 256 ++ tZ 256) frL frH frT) = true := by kernel_rfl
theorem tOk2 : okNamed (tS 0) = true := by kernel_rfl
theorem tOk3 : okNamed (mkSt 24 [] [] [(0, 4096, 0), (1, fr2, 0)] [(4096, 40, 256), (fr2, 40, 256)] (tZ 256 ++ u16s tabN) frL frH frT) = true := by kernel_rfl
theorem tOk4 : okNamed (mkSt 24 [] [] [(0, 4096, 0)] [(4096, 40, 256)] (u16s tabN) frL frH frT) = true := by kernel_rfl
theorem f19_is : Try.prog.funcs[19]? = some Try.f19 := by kernel_rfl
theorem tr_pick {k : Nat} (h : (nums k 8).map (fun i => (tRound i, okNamed (tS (i + 1)))) = (nums k 8).map fun i => (some (.normal, tS (i + 1)), true)) {i : Nat} (h1 : k ≤ i) (h2 : i < k + 8) : tRound i = some (.normal, tS (i + 1)) ∧ okNamed (tS (i + 1)) = true := by
  have hh := congrArg (fun l => l[i - k]?) h
  simp only [List.getElem?_map] at hh
  have e : (nums k 8)[i - k]? = some i := by
    have := List.getElem?_eq_getElem (l := nums k 8) (i := i - k) (by simp [nums]; omega)
    obtain ⟨h3, _⟩ := nums_get 8 k (i - k) _ this
    rw [this, h3]
    congr 1
    omega
  rw [e] at hh
  simp only [Option.map_some, Option.some.injEq, Prod.mk.injEq] at hh
  exact hh
theorem tr_at {i : Nat} (hi : i < 256) : tRound i = some (.normal, tS (i + 1)) ∧ okNamed (tS (i + 1)) = true := by
  rcases Nat.lt_or_ge i 8 with h | h0
  · exact tr_pick tr_0 (by omega) (by omega)
  rcases Nat.lt_or_ge i 16 with h | h1
  · exact tr_pick tr_1 (by omega) (by omega)
  rcases Nat.lt_or_ge i 24 with h | h2
  · exact tr_pick tr_2 (by omega) (by omega)
  rcases Nat.lt_or_ge i 32 with h | h3
  · exact tr_pick tr_3 (by omega) (by omega)
  rcases Nat.lt_or_ge i 40 with h | h4
  · exact tr_pick tr_4 (by omega) (by omega)
  rcases Nat.lt_or_ge i 48 with h | h5
  · exact tr_pick tr_5 (by omega) (by omega)
  rcases Nat.lt_or_ge i 56 with h | h6
  · exact tr_pick tr_6 (by omega) (by omega)
  rcases Nat.lt_or_ge i 64 with h | h7
  · exact tr_pick tr_7 (by omega) (by omega)
  rcases Nat.lt_or_ge i 72 with h | h8
  · exact tr_pick tr_8 (by omega) (by omega)
  rcases Nat.lt_or_ge i 80 with h | h9
  · exact tr_pick tr_9 (by omega) (by omega)
  rcases Nat.lt_or_ge i 88 with h | h10
  · exact tr_pick tr_10 (by omega) (by omega)
  rcases Nat.lt_or_ge i 96 with h | h11
  · exact tr_pick tr_11 (by omega) (by omega)
  rcases Nat.lt_or_ge i 104 with h | h12
  · exact tr_pick tr_12 (by omega) (by omega)
  rcases Nat.lt_or_ge i 112 with h | h13
  · exact tr_pick tr_13 (by omega) (by omega)
  rcases Nat.lt_or_ge i 120 with h | h14
  · exact tr_pick tr_14 (by omega) (by omega)
  rcases Nat.lt_or_ge i 128 with h | h15
  · exact tr_pick tr_15 (by omega) (by omega)
  rcases Nat.lt_or_ge i 136 with h | h16
  · exact tr_pick tr_16 (by omega) (by omega)
  rcases Nat.lt_or_ge i 144 with h | h17
  · exact tr_pick tr_17 (by omega) (by omega)
  rcases Nat.lt_or_ge i 152 with h | h18
  · exact tr_pick tr_18 (by omega) (by omega)
  rcases Nat.lt_or_ge i 160 with h | h19
  · exact tr_pick tr_19 (by omega) (by omega)
  rcases Nat.lt_or_ge i 168 with h | h20
  · exact tr_pick tr_20 (by omega) (by omega)
  rcases Nat.lt_or_ge i 176 with h | h21
  · exact tr_pick tr_21 (by omega) (by omega)
  rcases Nat.lt_or_ge i 184 with h | h22
  · exact tr_pick tr_22 (by omega) (by omega)
  rcases Nat.lt_or_ge i 192 with h | h23
  · exact tr_pick tr_23 (by omega) (by omega)
  rcases Nat.lt_or_ge i 200 with h | h24
  · exact tr_pick tr_24 (by omega) (by omega)
  rcases Nat.lt_or_ge i 208 with h | h25
  · exact tr_pick tr_25 (by omega) (by omega)
  rcases Nat.lt_or_ge i 216 with h | h26
  · exact tr_pick tr_26 (by omega) (by omega)
  rcases Nat.lt_or_ge i 224 with h | h27
  · exact tr_pick tr_27 (by omega) (by omega)
  rcases Nat.lt_or_ge i 232 with h | h28
  · exact tr_pick tr_28 (by omega) (by omega)
  rcases Nat.lt_or_ge i 240 with h | h29
  · exact tr_pick tr_29 (by omega) (by omega)
  rcases Nat.lt_or_ge i 248 with h | h30
  · exact tr_pick tr_30 (by omega) (by omega)
  exact tr_pick tr_31 (by omega) (by omega)
theorem frCall : ∀ β, CallOk Try.prog (callN Try.prog { gam := ([] : Gam) } 1 β) := callN_ok (E := { gam := [] }) GamOk.nil 1
/-- The table. -/
theorem table_calls (w : World) : Calls Try.prog 19 #[] w fun e w' => ∃ v, e = .returned v ∧ RowKit.Below w.heap.size w w' ∧ v = .agg (List.toArray (u16s tabN)) := by
  refine calls_of_wp f19_is tC_is ?_
  have hst := Stand.start (N := 24) [] w 4096 frH frT (by simp)
  refine wp_seq ((runs_drop frCall _ _ tb0).stand tOk0 hst fun a1 w1 h1 => ?_)
  refine wp_seq ((runs_drop frCall _ _ tb1).stand tOk1 h1 fun a2 w2 h2 => ?_)
  refine wp_seq (wp_seq ((runs_drop frCall _ _ tb2).stand tOk2 h2 fun a3 w3 h3 => ?_))
  have go : ∀ (k i : Nat) (Q : Exit → Act → World → Prop) (a' : Act) (w' : World), i + k = 256 → (∀ a'' w'', Stand (fun k => k < w.heap.size) w 24 (mkSt 24 [] [] [(0, 4096, 0), (1, fr2, 0)] [(4096, 40, 256), (fr2, 40, 256)] (tZ 256 ++ u16s tabN) frL frH frT) a'' w'' → Q (.exit 0) a'' w'') →
      Stand (fun k => k < w.heap.size) w 24 (tS i) a' w' → Code.rounds Try.prog tB Q (k + 1) a' w' := by
    intro k
    induction k with
    | zero =>
      intro i Q a' w' hi hQ hS
      have : i = 256 := by omega
      subst this
      rw [rounds_succ]
      exact (runs_drop frCall _ _ tr_end).stand tOk3 hS fun a5 w5 h5 => hQ a5 w5 h5
    | succ k ih =>
      intro i Q a' w' hi hQ hS
      obtain ⟨t1, t2⟩ := tr_at (i := i) (by omega)
      rw [rounds_succ]
      exact (runs_drop frCall _ _ t1).stand t2 hS fun a5 w5 h5 => ih (i + 1) Q a5 w5 (by omega) hQ h5
  refine wp_block (wp_loop_rounds 257 (go 256 0 _ a3 w3 rfl (fun a4 w4 h4 => ?_) h3))
  refine (runs_drop frCall _ _ tbE).stand tOk4 h4 fun a5 w5 h5 => ?_
  obtain ⟨h6, h7, h8⟩ := h5.results (P := Try.prog) (fn := Try.f19) tRes
  exact bodyPost_ret h6 h7 ⟨_, rfl, h8.below, rfl⟩
end Go.Ab
/- The sums' pieces. -/
namespace Go.Ab
open Go Go.Proofs
noncomputable def pC : Code := Try.f9.body.getD .skip
noncomputable def p0 : Code := seqL pC
noncomputable def pO1 : Array Oper := regO (seqL (seqR pC))
noncomputable def p2 : Code := seqL (seqR (seqR pC))
noncomputable def pT : Code := seqR (seqR (seqR pC))
noncomputable def pO3 : Array Oper := regO (seqL (seqL pT))
noncomputable def pE : Code := seqR pT
noncomputable def pL : Code := inB (inB (seqR (seqL pT)))
noncomputable def p4 : Code := seqL pL
noncomputable def pM : Code := inB (seqL (seqR (seqR pL)))
noncomputable def p7 : Code := seqR (seqR (seqR pL))
noncomputable def pO5 : Array Oper := regO (seqL pM)
noncomputable def pO6 : Array Oper := regO (seqR pM)
theorem pC_is : Try.f9.body = some (.seq p0 (.seq (.region 1 pO1 false) (.seq p2 (.seq (.seq (.region 3 pO3 false) (.block 0 (.loop pL))) pE)))) := by kernel_rfl
theorem pL_is : pL = .seq p4 (.seq (.cond (.tmp 12) .skip (.exit 0)) (.seq (.block 1 (.seq (.region 5 pO5 false) (.region 6 pO6 false))) p7)) := by kernel_rfl
noncomputable def gC : Code := Try.f10.body.getD .skip
noncomputable def g0 : Code := seqL gC
noncomputable def g1 : Code := seqL (seqR gC)
noncomputable def gT : Code := seqR (seqR gC)
noncomputable def g2 : Code := seqL (seqL gT)
noncomputable def gE : Code := seqR gT
noncomputable def gL : Code := inB (inB (seqR (seqL gT)))
noncomputable def g3 : Code := seqL (seqL gL)
noncomputable def gM : Code := inB (seqL (seqR gL))
noncomputable def g4 : Code := seqR (seqR gL)
noncomputable def gO5 : Array Oper := regO (seqL gM)
noncomputable def g6 : Code := seqL (seqR gM)
noncomputable def gK : Code := inB (inB (seqR (seqR gM)))
noncomputable def g7 : Code := seqL (seqL gK)
noncomputable def g9 : Code := inB (seqL (seqR gK))
noncomputable def g8 : Code := seqR (seqR gK)
theorem gC_is : Try.f10.body = some (.seq g0 (.seq g1 (.seq (.seq g2 (.block 0 (.loop gL))) gE))) := by kernel_rfl
theorem gL_is : gL = .seq (.seq g3 (.cond (.tmp 10) .skip (.exit 0))) (.seq (.block 1 (.seq (.region 5 gO5 false) (.seq g6 (.block 2 (.loop gK))))) g4) := by kernel_rfl
theorem gK_is : gK = .seq (.seq g7 (.cond (.tmp 21) .skip (.exit 2))) (.seq (.block 3 g9) g8) := by kernel_rfl
theorem f9_n : Try.f9.ntmps = 27 := by kernel_rfl
theorem f10_n : Try.f10.ntmps = 32 := by kernel_rfl
/-- frame.Sum's states. -/
def pS0 (s : ByteArray) : St := mkSt 27 [0] [.string s] [] [] [] 4096 frH frT
def pS1 (s : ByteArray) : St := mkSt 27 [0] [.string s] [(3, 4096, 0)] [(4096, 40, 256)] (u16s tabN) fr2 frH frT
def pS2 (s : ByteArray) (r : Int) : St := mkSt 27 [0, 4] [.string s, .int .u16 r] [(3, 4096, 0)] [(4096, 40, 256)] (u16s tabN) fr2 frH frT
def pS (sl : List (Nat × Value)) (v : Value) (n i r : Int) : St := mkSt 27 ([9, 10, 11, 4] ++ sl.map (·.1)) ([v, .int .i64 n, .int .i64 i, .int .u16 r] ++ sl.map (·.2)) [(3, 4096, 0)] [(4096, 40, 256)] (u16s tabN) fr2 frH frT
abbrev pB : List Nat := [9, 10, 11, 4, 3]
theorem pr0 (s : ByteArray) : frRun [] 27 p0 ⟨[Value.string s].map .val ++ List.replicate (27 - [Value.string s].length) (.val undef), [], 4096, frH, frT, []⟩ [] [0] = some (.normal, pS0 s) := by kernel_rfl
noncomputable abbrev frOps (N : Nat) (ops : Array Oper) (l : List Oper) (s : St) (keep ts : List Nat) : Option (Bool × St) := opsRun Try.prog (callN Try.prog { gam := ([] : Gam) } 1 (Bool × St)) (isSum ([] : Gam)) N ops l s [] (endOps keep (others N ts))
theorem pr1 (s : ByteArray) : frOps 27 pO1 (pO1.toList.drop 1) { pS0 s with tmps := (pS0 s).tmps.set 7 (.val (.agg (List.toArray (u16s tabN)))) } [4096] [0, 3] = some (true, pS1 s) := by kernel_rfl
theorem pr2 (s : ByteArray) : frRun [] 27 p2 (pS1 s) [4096] [0, 4, 3] = some (.normal, pS2 s 65535) := by kernel_rfl
theorem pr3 (s : ByteArray) (r : Int) (a : Option Addr) (n c : Nat) : frOps 27 pO3 (pO3.toList.drop 2) { pS2 s r with tmps := ((pS2 s r).tmps.set 8 (.val (.string s))).set 9 (.val (.slice a n c)) } [4096] pB = some (true, pS [] (.slice a n c) n 0 r) := by kernel_rfl
theorem pr4 (v : Value) (n i r : Int) : frRun [] 27 p4 (pS [] v n i r) [4096] (12 :: pB) = some (.normal, pS [(12, .bool (decide (i < n)))] v n i r) := by kernel_rfl
theorem pr5 (v x : Value) (n i r c : Int) : frOps 27 pO5 (pO5.toList.drop 2) { pS [] v n i r with tmps := ((pS [] v n i r).tmps.set 13 (.val x)).set 14 (.val (.int .u8 c)) } [4096] (6 :: pB) = some (true, pS [(6, .int .u8 c)] v n i r) := by kernel_rfl
theorem pr6 (v : Value) (n i r c : Int) : frOps 27 pO6 (pO6.toList.take 7) (pS [(6, .int .u8 c)] v n i r) [4096] (16 :: 21 :: pB) =
    some (true, pS [(16, .int .u16 (IntKind.u16.wrap (r * 2 ^ 8))), (21, .int .u8 (xorV .u8 (IntKind.u8.wrap (r.fdiv (2 ^ 8))) c))] v n i r) := by kernel_rfl
theorem pr6b (v : Value) (n i r x q : Int) (j : Nat) : frOps 27 pO6 (pO6.toList.drop 9) { pS [(16, .int .u16 x), (21, .int .u8 q)] v n i r with tmps := ((pS [(16, .int .u16 x), (21, .int .u8 q)] v n i r).tmps.set 22 (.ptr 4096 j)).set 23 (.val (.int .u16 (tabN.getD j 0 : Nat))) } [4096] pB =
    some (true, pS [] v n i (xorV .u16 x (tabN.getD j 0 : Nat))) := by kernel_rfl
theorem pr7 (v : Value) (n i r : Int) : frRun [] 27 p7 (pS [] v n i r) [4096] pB = some (.normal, pS [] v n (IntKind.i64.wrap (i + 1)) r) := by kernel_rfl
def pSE (r : Int) : St := mkSt 27 [2] [.int .u16 r] [] [] [] fr2 frH frT
theorem prE (v : Value) (n i r : Int) : frRun [] 27 pE (pS [] v n i r) [] [2] = some (.ret, pSE r) := by kernel_rfl
theorem pRes (r : Int) : resA Try.prog (pSE r) Try.f9.results.toList = some [.val (.int .u16 r)] := by kernel_rfl
/-- The document's states. -/
def gS (sl : List (Nat × Value)) (s : ByteArray) : St := mkSt 32 ([0] ++ sl.map (·.1)) ([.string s] ++ sl.map (·.2)) [] [] [] 4096 frH frT
def gV (i r : Int) : List (Nat × Value) := [(3, .int .u16 r), (4, .int .i64 i)]
def gW (i r k : Int) : List (Nat × Value) := [(3, .int .u16 r), (4, .int .i64 i), (5, .int .i64 k)]
theorem gr0 (s : ByteArray) : frRun [] 32 g0 ⟨[Value.string s].map .val ++ List.replicate (32 - [Value.string s].length) (.val undef), [], 4096, frH, frT, []⟩ [] [0] = some (.normal, gS [] s) := by kernel_rfl
theorem gr1 (s : ByteArray) : frRun [] 32 g1 (gS [] s) [] [0, 3] = some (.normal, gS [(3, .int .u16 65535)] s) := by kernel_rfl
theorem gr2 (s : ByteArray) : frRun [] 32 g2 (gS [(3, .int .u16 65535)] s) [] [0, 3, 4] = some (.normal, gS (gV 0 65535) s) := by kernel_rfl
theorem gr3 (s : ByteArray) (i r : Int) : frRun [] 32 g3 (gS (gV i r) s) [] [0, 3, 4, 10] = some (.normal, gS (gV i r ++ [(10, .bool (decide (i < s.size)))]) s) := by kernel_rfl
theorem gr5 (s : ByteArray) (i r c : Int) (x y : Value) : frOps 32 gO5 (gO5.toList.drop 4) { gS (gV i r) s with tmps := ((((gS (gV i r) s).tmps.set 13 (.val (.int .u16 r))).set 14 (.val x)).set 15 (.val y)).set 16 (.val (.int .u8 c)) } [] [0, 3, 4] =
    some (true, gS (gV i (xorV .u16 r (IntKind.u16.wrap (IntKind.u16.wrap c * 2 ^ 8)))) s) := by kernel_rfl
theorem gr6 (s : ByteArray) (i r : Int) : frRun [] 32 g6 (gS (gV i r) s) [] [0, 3, 4, 5] = some (.normal, gS (gW i r 0) s) := by kernel_rfl
theorem gr7 (s : ByteArray) (i r k : Int) : frRun [] 32 g7 (gS (gW i r k) s) [] [0, 3, 4, 5, 21] = some (.normal, gS (gW i r k ++ [(21, .bool (decide (k < 8)))]) s) := by kernel_rfl
theorem gr9 (s : ByteArray) (i r k : Int) : frRun [] 32 g9 (gS (gW i r k) s) [] [0, 3, 4, 5] = bif decide (r ≥ 32768) then some (.normal, gS (gW i (xorV .u16 (IntKind.u16.wrap (r * 2 ^ 1)) 4129) k) s) else some (.normal, gS (gW i (IntKind.u16.wrap (r * 2 ^ 1)) k) s) := by kernel_rfl
theorem gr8 (s : ByteArray) (i r k : Int) : frRun [] 32 g8 (gS (gW i r k) s) [] [0, 3, 4, 5] = some (.normal, gS (gW i r (IntKind.i64.wrap (k + 1))) s) := by kernel_rfl
theorem gr4 (s : ByteArray) (i r : Int) : frRun [] 32 g4 (gS (gV i r) s) [] [0, 3, 4] = some (.normal, gS (gV (IntKind.i64.wrap (i + 1)) r) s) := by kernel_rfl
def gSE (r : Int) : St := mkSt 32 [2] [.int .u16 r] [] [] [] 4096 frH frT
theorem grE (s : ByteArray) (i r : Int) : frRun [] 32 gE (gS (gV i r) s) [] [2] = some (.ret, gSE r) := by kernel_rfl
theorem gRes (r : Int) : resA Try.prog (gSE r) Try.f10.results.toList = some [.val (.int .u16 r)] := by kernel_rfl
end Go.Ab
/- The sums' walks. -/
namespace Go.Ab
open Go Go.Proofs
theorem f9_is : Try.prog.funcs[9]? = some Try.f9 := by kernel_rfl
theorem f10_is : Try.prog.funcs[10]? = some Try.f10 := by kernel_rfl
theorem f19_on : (Try.f19.body.isSome && !Try.f19.name == "runtime.NumGoroutine") = true := by kernel_rfl
def cTab : Call := { callee := .value (.func 19), args := #[], argTypes := #[] }
theorem q1_0 : sigOf pO1 0 = some (.call cTab, some 7, true) := by kernel_rfl
theorem q1_n : List.range pO1.size = 0 :: ((List.range (pO1.toList.drop 1).length).map (1 + ·) ++ []) := by kernel_rfl
theorem q3_0 : sigOf pO3 0 = some (.move (.tmp 0), some 8, true) := by kernel_rfl
theorem q3_1 : sigOf pO3 1 = some (.convert 9 38 (.tmp 8), some 9, true) := by kernel_rfl
theorem q3_n : List.range pO3.size = 0 :: 1 :: ((List.range (pO3.toList.drop 2).length).map (2 + ·) ++ []) := by kernel_rfl
theorem q5_0 : sigOf pO5 0 = some (.indexAddr 38 (.tmp 9) (.tmp 11), some 13, true) := by kernel_rfl
theorem q5_1 : sigOf pO5 1 = some (.load 5 (.tmp 13), some 14, true) := by kernel_rfl
theorem q5_n : List.range pO5.size = 0 :: 1 :: ((List.range (pO5.toList.drop 2).length).map (2 + ·) ++ []) := by kernel_rfl
theorem q6_7 : sigOf pO6 7 = some (.indexAddr 40 (.tmp 3) (.tmp 21), some 22, true) := by kernel_rfl
theorem q6_8 : sigOf pO6 8 = some (.load 22 (.tmp 22), some 23, true) := by kernel_rfl
theorem q6_n : List.range pO6.size = (List.range (pO6.toList.take 7).length).map (0 + ·) ++ (7 :: 8 :: ((List.range (pO6.toList.drop 9).length).map (9 + ·) ++ [])) := by kernel_rfl
theorem k5_0 : sigOf gO5 0 = some (.move (.tmp 3), some 13, true) := by kernel_rfl
theorem k5_1 : sigOf gO5 1 = some (.move (.tmp 0), some 14, true) := by kernel_rfl
theorem k5_2 : sigOf gO5 2 = some (.move (.tmp 4), some 15, true) := by kernel_rfl
theorem k5_3 : sigOf gO5 3 = some (.index 9 (.tmp 14) (.tmp 15), some 16, true) := by kernel_rfl
theorem k5_n : List.range gO5.size = 0 :: 1 :: 2 :: 3 :: ((List.range (gO5.toList.drop 4).length).map (4 + ·) ++ []) := by kernel_rfl
theorem v9 : Try.prog.underlying 9 = some .string := by kernel_rfl
theorem v38 : Try.prog.underlying 38 = some (.slice 5) := by kernel_rfl
theorem v5 : Try.prog.underlying 5 = some (.int .u8) := by kernel_rfl
theorem v40 : Try.prog.underlying 40 = some (.array 256 22) := by kernel_rfl
theorem v22 : Try.prog.underlying 22 = some (.int .u16) := by kernel_rfl
theorem j5 : (Try.prog.info? 5).map (·.size) = some 1 := by kernel_rfl
theorem j22 : (Try.prog.info? 22).map (·.size) = some 1 := by kernel_rfl
theorem drop_at {ops : Array Oper} {k j : Nat} {o : Oper} (h : (ops.toList.drop k)[j]? = some o) : ops[k + j]? = some o := by
  rw [List.getElem?_drop, Array.getElem?_toList] at h
  exact h
theorem take_at {ops : Array Oper} {k j : Nat} {o : Oper} (h : (ops.toList.take k)[j]? = some o) : ops[0 + j]? = some o := by
  rw [List.getElem?_take] at h
  split at h
  · rw [Array.getElem?_toList] at h
    rw [Nat.zero_add]
    exact h
  · cases h
theorem mid_at {ops : Array Oper} {k n j : Nat} {o : Oper} (h : ((ops.toList.drop k).take n)[j]? = some o) : ops[k + j]? = some o := by
  rw [List.getElem?_take] at h
  split at h
  · rw [List.getElem?_drop, Array.getElem?_toList] at h
    exact h
  · cases h
theorem info_of {t n : Nat} (h : (Try.prog.info? t).map (·.size) = some n) : ∃ ti, Try.prog.info? t = some ti ∧ ti.size = n := by
  cases hi : Try.prog.info? t with
  | none => rw [hi] at h; cases h
  | some ti => rw [hi] at h; exact ⟨ti, rfl, by simpa using h⟩
section
variable (s : ByteArray) (v : Value) (n i r k c x q : Int) (b : Bool)
theorem oP0 : okNamed (pS0 s) = true := by kernel_rfl
theorem oP1 : okNamed (pS1 s) = true := by kernel_rfl
theorem oP2 : okNamed (pS2 s r) = true := by kernel_rfl
theorem oP : okNamed (pS [] v n i r) = true := by kernel_rfl
theorem oP12 : okNamed (pS [(12, .bool b)] v n i r) = true := by kernel_rfl
theorem oP6 : okNamed (pS [(6, .int .u8 c)] v n i r) = true := by kernel_rfl
theorem oP62 : okNamed (pS [(16, .int .u16 x), (21, .int .u8 q)] v n i r) = true := by kernel_rfl
theorem oPE : okNamed (pSE r) = true := by kernel_rfl
theorem wP12 : dropSt [4096] (others 27 pB) (pS [(12, .bool b)] v n i r) = pS [] v n i r := by kernel_rfl
theorem lP0 : (pS0 s).tmps.length = 27 := by kernel_rfl
theorem lP2 : (pS2 s r).tmps.length = 27 := by kernel_rfl
theorem lP : (pS [] v n i r).tmps.length = 27 := by kernel_rfl
theorem lP62 : (pS [(16, .int .u16 x), (21, .int .u8 q)] v n i r).tmps.length = 27 := by kernel_rfl
theorem hP62 : hget (pS [(16, .int .u16 x), (21, .int .u8 q)] v n i r).heap 4096 = some (.row 40 ((u16s tabN).map .val)) := by kernel_rfl
theorem oG0 : okNamed (gS [] s) = true := by kernel_rfl
theorem oG1 : okNamed (gS [(3, .int .u16 r)] s) = true := by kernel_rfl
theorem oG2 : okNamed (gS (gV i r) s) = true := by kernel_rfl
theorem oG3 : okNamed (gS (gV i r ++ [(10, .bool b)]) s) = true := by kernel_rfl
theorem oG4 : okNamed (gS (gW i r k) s) = true := by kernel_rfl
theorem oG5 : okNamed (gS (gW i r k ++ [(21, .bool b)]) s) = true := by kernel_rfl
theorem oGE : okNamed (gSE r) = true := by kernel_rfl
theorem wG3 : dropSt [] (others 32 [0, 3, 4]) (gS (gV i r ++ [(10, .bool b)]) s) = gS (gV i r) s := by kernel_rfl
theorem wG5 : dropSt [] (others 32 [0, 3, 4, 5]) (gS (gW i r k ++ [(21, .bool b)]) s) = gS (gW i r k) s := by kernel_rfl
theorem wG6 : dropSt [] (others 32 [0, 3, 4]) (gS (gW i r k) s) = gS (gV i r) s := by kernel_rfl
theorem lG2 : (gS (gV i r) s).tmps.length = 32 := by kernel_rfl
end
/-- What was kept of before, behind a change elsewhere. -/
theorem Keep.wide {F : Nat → Prop} {w0 w w' w'' : World} (h : Keep F w0 w) (h1 : w'.os = w.os) (h2 : w'.tape = w.tape) (h3 : w'.output = w.output) (hg : w.heap.size ≤ w'.heap.size) (hs : ∀ j, F j → w'.heap[j]? = w.heap[j]?) (k : Keep (Wide F w w') w' w'') : Keep F w0 w'' :=
  ⟨k.os.trans (h1.trans h.os), k.tape.trans (h2.trans h.tape), k.output.trans (h3.trans h.output), Nat.le_trans h.grown (Nat.le_trans hg k.grown), fun x hx => ⟨(h.frame x hx).1, (k.frame x (.inl hx)).2.trans ((hs x hx).trans (h.frame x hx).2)⟩⟩
theorem tab_at {j : Nat} (hj : j < 256) : tabN.getD j 0 = sh8 (j * 256) ∧ ((u16s tabN).map AV.val)[j]? = some (.val (.int .u16 (tabN.getD j 0 : Nat))) := by
  have e : (nums 0 256)[j]? = some j := by
    have hl : (nums 0 256).length = 256 := by kernel_rfl
    have := List.getElem?_eq_getElem (l := nums 0 256) (i := j) (by omega)
    obtain ⟨h1, _⟩ := nums_get 256 0 j _ this
    rw [this, h1, Nat.zero_add]
  have h : tabN[j]? = some (sh8 (j * 256)) := by unfold tabN; rw [List.getElem?_map, e]; rfl
  have h2 : tabN.getD j 0 = sh8 (j * 256) := by rw [List.getD_eq_getElem?_getD, h]; rfl
  refine ⟨h2, ?_⟩
  rw [h2]
  unfold u16s
  rw [List.getElem?_map, List.getElem?_map, h]
  rfl
theorem byte_at {l : List UInt8} {i : Nat} (hi : i < l.length) : l.take (i + 1) = l.take i ++ [l.getD i 0] := by
  rw [List.take_add_one, List.getElem?_eq_getElem hi, List.getD_eq_getElem?_getD, List.getElem?_eq_getElem hi]
  rfl
theorem crcF_snoc (l : List UInt8) (b : UInt8) (r : Nat) : crcF (l ++ [b]) r = stR (crcF l r) b.toNat := by unfold crcF; rw [List.foldl_append]; rfl
theorem bytesWorld_kept (w : World) (e : TypeId) (s : ByteArray) : (Lib.bytesWorld w e s).os = w.os ∧ (Lib.bytesWorld w e s).tape = w.tape ∧ (Lib.bytesWorld w e s).output = w.output := ⟨rfl, rfl, rfl⟩
theorem shl8 (r : Nat) : IntKind.u16.wrap ((r : Int) * 2 ^ 8) = ((r * 256 % 65536 : Nat) : Int) := by
  have e : (r : Int) * 2 ^ 8 = ((r * 256 : Nat) : Int) := by omega
  rw [e, wrap16]
theorem shr8 (r : Nat) : (r : Int).fdiv (2 ^ 8) = ((r / 256 : Nat) : Int) := by
  rw [Int.fdiv_eq_ediv_of_nonneg _ (by decide)]
  omega
attribute [local irreducible] u16s tabN
/-- One byte more. -/
theorem sum_round {w0 : World} {F : Nat → Prop} {s : ByteArray} {blk cap : Nat} (hF : F blk) (hc : ∀ j, j < s.size → w0.cell? ⟨blk, j, none⟩ = some (.int .u8 (s.data.toList.getD j 0).toNat)) (hsz : s.size ≤ 4611686018427387904) {Q : Exit → Act → World → Prop}
    (hQ : ∀ a' w', Stand F w0 27 (pS [] (.slice (some ⟨blk, 0, none⟩) s.size cap) s.size s.size (crcF s.data.toList 65535 : Nat)) a' w' → Q (.exit 0) a' w') :
    ∀ (m i : Nat) (act : Act) (w : World), i + m = s.size → Stand F w0 27 (pS [] (.slice (some ⟨blk, 0, none⟩) s.size cap) s.size i (crcF (s.data.toList.take i) 65535 : Nat)) act w → Code.rounds Try.prog pL Q (m + 1) act w := by
  have hlen : s.data.toList.length = s.size := rfl
  intro m
  induction m with
  | zero =>
    intro i act w hi hst
    rw [rounds_succ, pL_is]
    refine wp_seq ((runs_drop frCall _ _ (pr4 _ _ _ _)).stand (oP12 ..) hst fun a1 w1 h1 => ?_)
    have hb : decide ((i : Int) < (s.size : Int)) = false := decide_eq_false (by omega)
    rw [hb] at h1
    refine wp_seq (wp_cond_false (h1.eval (t := 12) rfl) (wp_exit ?_))
    have hi' : i = s.size := by omega
    subst hi'
    rw [← hlen, List.take_length] at h1
    refine hQ a1 w1 (h1.weak ?_ (Nat.le_refl _) (Nat.le_refl _))
    rw [← wP12 _ _ _ _ false]
    exact dropSt_wk _ _ _
  | succ m ih =>
    intro i act w hi hst
    rw [rounds_succ, pL_is]
    refine wp_seq ((runs_drop frCall _ _ (pr4 _ _ _ _)).stand (oP12 ..) hst fun a1 w1 h1 => ?_)
    have hb : decide ((i : Int) < (s.size : Int)) = true := decide_eq_true (by omega)
    rw [hb] at h1
    refine wp_seq (wp_cond_true (h1.eval (t := 12) rfl) (wp_skip ?_))
    have h2 : Stand F w0 27 (pS [] (.slice (some ⟨blk, 0, none⟩) s.size cap) s.size i (crcF (s.data.toList.take i) 65535 : Nat)) a1 w1 := by
      refine h1.weak ?_ (Nat.le_refl _) (Nat.le_refl _)
      rw [← wP12 _ _ _ _ true]
      exact dropSt_wk _ _ _
    generalize hr : crcF (s.data.toList.take i) 65535 = r at h2
    have hrl : r < 65536 := by rw [← hr]; exact crcF_lt _ _ (by omega)
    generalize hcc : (s.data.toList.getD i 0) = c
    have hcl : c.toNat < 256 := c.toNat_lt
    obtain ⟨ti, hti, hs1⟩ := info_of j5
    refine wp_seq (wp_block (wp_seq (wp_region ?_)))
    rw [q5_n]
    refine index_stand q5_0 (by omega) (lP ..) v38 hti h2 (b := ⟨blk, 0, none⟩) (len := s.size) (cap := cap) (i := i) (ik := .i64) (h2.eval (t := 9) rfl) (h2.eval (t := 11) rfl) (by omega) _ fun a3 h3 => ?_
    have hcell : w1.cell? ((⟨blk, 0, none⟩ : Addr).add (i * ti.size)) = some (.int .u8 (c.toNat : Int)) := by
      rw [hs1, Nat.mul_one, addr_add, Nat.zero_add]
      have := hc i (by omega)
      rw [hcc] at this
      have e := (h2.keep.frame blk hF).2
      unfold World.cell? at this ⊢
      rw [e]
      exact this
    refine load_stand q5_1 (by omega) (by rw [List.length_set]; exact lP ..) h3 (h3.eval (t := 13) rfl) (run_loadScalar v5 rfl hcell) _ fun a4 h4 => ?_
    refine ops_stand (frCall _) (qf := isSum ([] : Gam)) [4096] _ (pr5 (.slice (some ⟨blk, 0, none⟩) s.size cap) (.pointer (some ((⟨blk, 0, none⟩ : Addr).add (i * ti.size)))) s.size i r c.toNat) (fun _ _ hj => drop_at hj) (oP6 (.slice (some ⟨blk, 0, none⟩) s.size cap) s.size i r c.toNat) h4 [] fun a5 w5 h5 => ?_
    refine wp_region ?_
    rw [q6_n]
    refine ops_stand (frCall _) (qf := isSum ([] : Gam)) [4096] _ (pr6 (.slice (some ⟨blk, 0, none⟩) s.size cap) s.size i r c.toNat) (fun _ _ hj => take_at hj) (oP62 ..) h5 _ fun a6 w6 h6 => ?_
    have e1 : IntKind.u16.wrap ((r : Int) * 2 ^ 8) = ((r * 256 % 65536 : Nat) : Int) := shl8 r
    have hx : (r / 256 ^^^ c.toNat) < 2 ^ 8 := Nat.xor_lt_two_pow (by omega) (by omega)
    have e2 : xorV .u8 (IntKind.u8.wrap ((r : Int).fdiv (2 ^ 8))) (c.toNat : Int) = ((r / 256 ^^^ c.toNat : Nat) : Int) := by
      rw [shr8, wrap8, Nat.mod_eq_of_lt (by omega), xor8 (by omega) hcl]
    rw [e1, e2] at h6
    obtain ⟨t22, h22, s22⟩ := info_of j22
    obtain ⟨b1, b2⟩ := tab_at (j := r / 256 ^^^ c.toNat) (by omega)
    refine own_index q6_7 (by omega) (lP62 ..) v40 h22 s22 h6 (b := 4096) (j := r / 256 ^^^ c.toNat) (ik := .u8) rfl rfl (by omega) _ fun a7 h7 => ?_
    refine own_load q6_8 (by omega) (by rw [List.length_set]; exact lP62 ..) v22 rfl h7 (b := 4096) (j := r / 256 ^^^ c.toNat) rfl (hP62 ..) b2 _ fun a8 h8 => ?_
    refine ops_stand (frCall _) (qf := isSum ([] : Gam)) [4096] _ (pr6b (.slice (some ⟨blk, 0, none⟩) s.size cap) s.size i r (r * 256 % 65536 : Nat) (r / 256 ^^^ c.toNat : Nat) (r / 256 ^^^ c.toNat)) (fun _ _ hj => drop_at hj) (oP ..) h8 [] fun a9 w9 h9 => ?_
    have e3 : xorV .u16 ((r * 256 % 65536 : Nat) : Int) (tabN.getD (r / 256 ^^^ c.toNat) 0 : Nat) = ((crcF (s.data.toList.take (i + 1)) 65535 : Nat) : Int) := by
      have hs8 : sh8 ((r / 256 ^^^ c.toNat) * 256) < 65536 := sh8_lt (by omega)
      rw [b1, xor16 (by omega) hs8, byte_at (by omega), crcF_snoc, hr, hcc, ← st_eq hrl hcl]
      rfl
    rw [e3] at h9
    refine (runs_drop frCall _ _ (pr7 _ _ _ _)).stand (oP ..) h9 fun a10 w10 h10 => ?_
    have hw : IntKind.i64.wrap ((i : Int) + 1) = ((i + 1 : Nat) : Int) := by rw [wrapM]; omega
    rw [hw] at h10
    exact ih (i + 1) a10 w10 (by omega) h10
theorem sum_calls (s : ByteArray) (hsz : s.size ≤ 4611686018427387904) (w : World) : Calls Try.prog 9 #[.string s] w fun e w' => ∃ v, e = .returned v ∧ RowKit.Below w.heap.size w w' ∧ v = .int .u16 (crcF s.data.toList 65535 : Nat) := by
  refine calls_of_wp f9_is pC_is ?_
  have hst := Stand.start (N := 27) [.string s] w 4096 frH frT (by simp)
  refine wp_seq ((runs_drop frCall _ _ (pr0 s)).stand (oP0 s) hst fun a1 w1 h1 => ?_)
  refine wp_seq (wp_region ?_)
  rw [q1_n]
  refine call_world q1_0 (by omega) (lP0 s) h1 rfl f19_is f19_on (args := #[]) (by simp [cTab]) (table_calls w1) _ fun v a2 w2 hv hb h2 => ?_
  subst hv
  have K2 : ∀ w'', Keep (Wide (fun k => k < w.heap.size) w1 w2) w2 w'' → Keep (fun k => k < w.heap.size) w w'' := fun w'' k => h1.keep.wide hb.os hb.tape hb.output hb.size (fun j hj => hb.block j (h1.keep.lt hj)) k
  refine ops_stand (frCall _) (qf := isSum ([] : Gam)) [4096] _ (pr1 s) (fun _ _ hj => drop_at hj) (oP1 ..) h2 [] fun a3 w3 h3 => ?_
  refine wp_seq ((runs_drop frCall _ _ (pr2 s)).stand (oP2 ..) h3 fun a4 w4 h4 => ?_)
  refine wp_seq (wp_seq (wp_region ?_))
  rw [q3_n]
  refine move_stand q3_0 (by omega) (lP2 ..) h4 (v := .string s) (h4.eval (t := 0) rfl) _ fun a5 h5 => ?_
  refine op_world q3_1 (by omega) (by rw [List.length_set]; exact lP2 ..) h5 (v := .slice (some ⟨w4.heap.size, 0, none⟩) s.size (grownCap w4 s.size 0 5)) (w' := Lib.bytesWorld w4 5 s) (fun o ho => ?_) (by rw [Lib.bytesWorld_size]; omega) (fun j hj _ => Lib.bytesWorld_at_old w4 5 s j hj) _ fun a6 h6 => ?_
  · have hx : a5.eval (.tmp 8) = .string s := h5.eval (t := 8) rfl
    simp only [execOp, ho, hx, Sem.run_bind, Lib.run_convert_string_bytes w4 9 38 5 s v9 v38 v5, Result.andThen_ok, Sem.run_pure]
  refine ops_stand (frCall _) (qf := isSum ([] : Gam)) [4096] _ (pr3 s 65535 (some ⟨w4.heap.size, 0, none⟩) s.size (grownCap w4 s.size 0 5)) (fun _ _ hj => drop_at hj) (oP (.slice (some ⟨w4.heap.size, 0, none⟩) s.size (grownCap w4 s.size 0 5)) s.size 0 65535) h6 [] fun a7 w7 h7 => ?_
  obtain ⟨z1, z2, z3⟩ := bytesWorld_kept w4 5 s
  have K3 : ∀ w'', Keep (Wide (Wide (fun k => k < w.heap.size) w1 w2) w4 (Lib.bytesWorld w4 5 s)) (Lib.bytesWorld w4 5 s) w'' → Keep (fun k => k < w.heap.size) w w'' := fun w'' k =>
    K2 w'' (h4.keep.wide z1 z2 z3 (by rw [Lib.bytesWorld_size]; omega) (fun j hj => Lib.bytesWorld_at_old w4 5 s j (h4.keep.lt hj)) k)
  refine wp_block (wp_loop_rounds (s.size + 1) (sum_round (blk := w4.heap.size) (cap := grownCap w4 s.size 0 5) (.inr ⟨Nat.le_refl _, by rw [Lib.bytesWorld_size]; omega⟩) (fun j hj => Lib.bytesWorld_cell w4 5 s j hj) hsz (fun a8 w8 h8 => ?_) s.size 0 a7 w7 (by omega) h7))
  refine (runs_drop frCall _ _ (prE _ _ _ _)).stand (oPE ..) h8 fun a9 w9 h9 => ?_
  obtain ⟨y1, y2, y3⟩ := h9.results (P := Try.prog) (fn := Try.f9) (pRes _)
  exact bodyPost_ret y1 y2 ⟨_, rfl, (K3 _ y3).below, rfl⟩
end Go.Ab
/- Summaries out of walks: values in, a value out, where something holds. -/
namespace Go.Ab
open Go
variable {α ω : Type}
instance : Cod ByteArray where
  enc s := .string s
  dec v := match v with | .string s => some s | _ => none
  law v a h := by split at h <;> simp_all
/-- A number of 16 bits. -/
structure N16 where
  n : Nat
instance : Cod N16 where
  enc x := .int .u16 x.n
  dec v := match v with | .int .u16 (.ofNat n) => some ⟨n⟩ | _ => none
  law v a h := by split at h <;> simp_all; subst h; rfl
def S0w [Args α] [Cod ω] (pre : α → Bool) (g : α → ω) : Summary := fun args cs => match cs with
  | [] => match Args.decs (α := α) args with
    | some a => .test (pre a) (.ret (.val (Cod.enc (g a))) []) .no
    | none => .no
  | _ :: _ => .no
theorem S0w_sel [Args α] [Cod ω] {pre : α → Bool} {g : α → ω} {args : List AV} {cs cs' : List Con} {r : AV} (h : (S0w pre g args cs).sel = some (r, cs')) :
    ∃ a, pre a = true ∧ args = Args.encs a ∧ cs = [] ∧ r = .val (Cod.enc (g a)) ∧ cs' = [] := by
  unfold S0w at h
  split at h
  · split at h
    · rename_i a ha
      cases hp : pre a with
      | false => rw [hp] at h; simp [STr.sel] at h
      | true =>
        rw [hp] at h
        simp only [STr.sel, cond_true, Option.some.injEq, Prod.mk.injEq] at h
        obtain ⟨rfl, rfl⟩ := h
        exact ⟨a, hp, Args.law _ _ ha, rfl, rfl, rfl⟩
    · simp [STr.sel] at h
  · simp [STr.sel] at h
/-- Arguments as they stand. -/
class Plains (α : Type) [Args α] where
  vals : α → List Value
  law : ∀ a : α, Args.encs a = (vals a).map AV.val
instance : Plains Unit where
  vals _ := []
  law _ := rfl
instance {α β : Type} [Cod α] [Args β] [Plains β] : Plains (α × β) where
  vals p := Cod.enc p.1 :: Plains.vals p.2
  law a := by show _ :: Args.encs a.2 = _; rw [Plains.law a.2]; rfl
theorem rels_vals {σ : Nat → Option Nat} : ∀ (l vs : List Value), Rels σ (l.map AV.val) vs → vs = l
  | [], vs, h => by simpa only [List.map_nil, Rels] using h
  | v :: l, vs, h => by
    simp only [List.map_cons, Rels] at h
    obtain ⟨x, xs, rfl, h1, h2⟩ := h
    simp only [Rel] at h1
    rw [h1, rels_vals l xs h2]
theorem S0w_of [Args α] [Plains α] [Cod ω] {P : Program} {f : FuncId} {pre : α → Bool} {g : α → ω}
    (h : ∀ a w, pre a = true → Calls P f (List.toArray (Plains.vals a)) w fun e w' => ∃ v, e = .returned v ∧ RowKit.Below w.heap.size w w' ∧ v = Cod.enc (g a)) : SumOk P f (S0w pre g) := by
  intro args cs r cs' hs
  obtain ⟨a, hp, rfl, rfl, rfl, rfl⟩ := S0w_sel hs
  refine ⟨by simp, fun σ vals w hinj hbd hvals _ _ => ?_⟩
  rw [Plains.law] at hvals
  obtain rfl := rels_vals _ _ hvals
  refine Calls.mono (h a w hp) fun e w' he => ?_
  obtain ⟨v, rfl, hb, rfl⟩ := he
  refine ⟨σ, _, rfl, Le.refl σ, fun b hb _ => hb, by simp only [Rel], fun b c hb => ?_, hinj, fun b r hr => Nat.lt_of_lt_of_le (hbd b r hr) hb.size, fun b c hb => ?_, hb.os, hb.tape, hb.output, hb.size, fun k hk _ => hb.block k hk⟩
  · simp [numH, hget] at hb
  · simp [numH, hget] at hb
end Go.Ab
/- The document's sum; FrameSums. -/
namespace Go.Ab
open Go Go.Proofs
theorem shl1 (r : Nat) : IntKind.u16.wrap ((r : Int) * 2 ^ 1) = ((r * 2 % 65536 : Nat) : Int) := by
  have e : (r : Int) * 2 ^ 1 = ((r * 2 : Nat) : Int) := by omega
  rw [e, wrap16]
def shN : Nat → (Nat → Nat)
  | 0 => fun r => r
  | n + 1 => fun r => shN n (sh1 r)
theorem shN8 (r : Nat) : shN 8 r = sh8 r := rfl
theorem shN_lt : ∀ (n r : Nat), r < 65536 → shN n r < 65536
  | 0, _, h => h
  | n + 1, _, h => shN_lt n _ (sh1_lt h)
/-- Eight bits. -/
theorem bit_round {w0 : World} {F : Nat → Prop} {s : ByteArray} {i : Int} {Q : Exit → Act → World → Prop} :
    ∀ (m k r : Nat) (act : Act) (w : World), k + m = 8 → r < 65536 → (∀ a' w', Stand F w0 32 (gS (gV i (shN m r : Nat)) s) a' w' → Q (.exit 2) a' w') → Stand F w0 32 (gS (gW i r k) s) act w → Code.rounds Try.prog gK Q (m + 1) act w := by
  intro m
  induction m with
  | zero =>
    intro k r act w hk hr hQ hst
    rw [rounds_succ, gK_is]
    refine wp_seq (wp_seq ((runs_drop frCall _ _ (gr7 _ _ _ _)).stand (oG5 ..) hst fun a1 w1 h1 => ?_))
    have hb : decide ((k : Int) < 8) = false := decide_eq_false (by omega)
    rw [hb] at h1
    refine wp_cond_false (h1.eval (t := 21) rfl) (wp_exit ?_)
    have h2 : Stand F w0 32 (gS (gW i r k) s) a1 w1 := by
      refine h1.weak ?_ (Nat.le_refl _) (Nat.le_refl _)
      rw [← wG5 _ _ _ _ false]
      exact dropSt_wk _ _ _
    refine hQ a1 w1 (h2.weak ?_ (Nat.le_refl _) (Nat.le_refl _))
    show Wk (gS (gV i r) s).u _
    rw [← wG6 _ _ _ k]
    exact dropSt_wk _ _ _
  | succ m ih =>
    intro k r act w hk hr hQ hst
    rw [rounds_succ, gK_is]
    refine wp_seq (wp_seq ((runs_drop frCall _ _ (gr7 _ _ _ _)).stand (oG5 ..) hst fun a1 w1 h1 => ?_))
    have hb : decide ((k : Int) < 8) = true := decide_eq_true (by omega)
    rw [hb] at h1
    refine wp_cond_true (h1.eval (t := 21) rfl) (wp_skip ?_)
    have h2 : Stand F w0 32 (gS (gW i r k) s) a1 w1 := by
      refine h1.weak ?_ (Nat.le_refl _) (Nat.le_refl _)
      rw [← wG5 _ _ _ _ true]
      exact dropSt_wk _ _ _
    have e : (bif decide ((r : Int) ≥ 32768) then some (Ex.normal, gS (gW i (xorV .u16 (IntKind.u16.wrap ((r : Int) * 2 ^ 1)) 4129) k) s) else some (.normal, gS (gW i (IntKind.u16.wrap ((r : Int) * 2 ^ 1)) k) s)) = some (.normal, gS (gW i (sh1 r : Nat) k) s) := by
      rw [shl1]
      by_cases h : (r : Int) ≥ 32768
      · rw [decide_eq_true h, cond_true, show (4129 : Int) = ((4129 : Nat) : Int) from rfl, xor16 (by omega) (by omega)]
        have : r / 32768 = 1 := by omega
        unfold sh1
        rw [this]
      · rw [decide_eq_false h, cond_false]
        have : r / 32768 = 0 := by omega
        unfold sh1
        rw [this, Nat.zero_mul, Nat.xor_zero]
    refine wp_seq (wp_block ((runs_drop frCall _ _ ((gr9 s i r k).trans e)).stand (oG4 ..) h2 fun a3 w3 h3 => ?_))
    refine (runs_drop frCall _ _ (gr8 _ _ _ _)).stand (oG4 ..) h3 fun a4 w4 h4 => ?_
    have hw : IntKind.i64.wrap ((k : Int) + 1) = ((k + 1 : Nat) : Int) := by rw [wrapM]; omega
    rw [hw] at h4
    exact ih (k + 1) (sh1 r) a4 w4 (by omega) (sh1_lt hr) hQ h4
theorem ref_round {w0 : World} {F : Nat → Prop} {s : ByteArray} (hsz : s.size ≤ 4611686018427387904) {Q : Exit → Act → World → Prop} (hQ : ∀ a' w', Stand F w0 32 (gS (gV s.size (crcF s.data.toList 65535 : Nat)) s) a' w' → Q (.exit 0) a' w') :
    ∀ (m i : Nat) (act : Act) (w : World), i + m = s.size → Stand F w0 32 (gS (gV i (crcF (s.data.toList.take i) 65535 : Nat)) s) act w → Code.rounds Try.prog gL Q (m + 1) act w := by
  have hlen : s.data.toList.length = s.size := rfl
  intro m
  induction m with
  | zero =>
    intro i act w hi hst
    rw [rounds_succ, gL_is]
    refine wp_seq (wp_seq ((runs_drop frCall _ _ (gr3 _ _ _)).stand (oG3 ..) hst fun a1 w1 h1 => ?_))
    have hb : decide ((i : Int) < (s.size : Int)) = false := decide_eq_false (by omega)
    rw [hb] at h1
    refine wp_cond_false (h1.eval (t := 10) rfl) (wp_exit ?_)
    have hi' : i = s.size := by omega
    subst hi'
    rw [← hlen, List.take_length] at h1
    refine hQ a1 w1 (h1.weak ?_ (Nat.le_refl _) (Nat.le_refl _))
    rw [← wG3 _ _ _ false]
    exact dropSt_wk _ _ _
  | succ m ih =>
    intro i act w hi hst
    rw [rounds_succ, gL_is]
    refine wp_seq (wp_seq ((runs_drop frCall _ _ (gr3 _ _ _)).stand (oG3 ..) hst fun a1 w1 h1 => ?_))
    have hb : decide ((i : Int) < (s.size : Int)) = true := decide_eq_true (by omega)
    rw [hb] at h1
    refine wp_cond_true (h1.eval (t := 10) rfl) (wp_skip ?_)
    have h2 : Stand F w0 32 (gS (gV i (crcF (s.data.toList.take i) 65535 : Nat)) s) a1 w1 := by
      refine h1.weak ?_ (Nat.le_refl _) (Nat.le_refl _)
      rw [← wG3 _ _ _ true]
      exact dropSt_wk _ _ _
    generalize hr : crcF (s.data.toList.take i) 65535 = r at h2
    have hrl : r < 65536 := by rw [← hr]; exact crcF_lt _ _ (by omega)
    generalize hcc : (s.data.toList.getD i 0) = c
    have hcl : c.toNat < 256 := c.toNat_lt
    refine wp_seq (wp_block (wp_seq (wp_region ?_)))
    rw [k5_n]
    have hil : i < s.size := by omega
    refine move_stand k5_0 (by omega) (lG2 ..) h2 (v := .int .u16 r) (h2.eval (t := 3) rfl) _ fun a3 h3 => ?_
    refine move_stand k5_1 (by omega) (by rw [List.length_set]; exact lG2 ..) h3 (v := .string s) (h3.eval (t := 0) rfl) _ fun a4 h4 => ?_
    refine move_stand k5_2 (by omega) (by rw [List.length_set, List.length_set]; exact lG2 ..) h4 (v := .int .i64 i) (h4.eval (t := 4) rfl) _ fun a5 h5 => ?_
    refine op_here k5_3 (by omega) (by rw [List.length_set, List.length_set, List.length_set]; exact lG2 ..) h5 (v := .int .u8 c.toNat) (fun o ho => ?_) _ fun a6 h6 => ?_
    · have hx : a5.eval (.tmp 14) = .string s := h5.eval (t := 14) rfl
      have hy : a5.eval (.tmp 15) = .int .i64 i := h5.eval (t := 15) rfl
      simp only [execOp, ho, hx, hy, Sem.run_bind, run_index_string (i := i) v9 hil, Result.andThen_ok, Sem.run_pure, hcc]
    refine ops_stand (frCall _) (qf := isSum ([] : Gam)) [] _ (gr5 s i r c.toNat (.string s) (.int .i64 i)) (fun _ _ hj => drop_at hj) (oG2 ..) h6 [] fun a7 w7 h7 => ?_
    have e : xorV .u16 (r : Int) (IntKind.u16.wrap (IntKind.u16.wrap (c.toNat : Int) * 2 ^ 8)) = ((r ^^^ (c.toNat * 256) : Nat) : Int) := by
      rw [wrap16, Nat.mod_eq_of_lt (by omega), shl8, Nat.mod_eq_of_lt (by omega), xor16 hrl (by omega)]
    rw [e] at h7
    have hxl : (r ^^^ (c.toNat * 256)) < 65536 := Nat.xor_lt_two_pow (n := 16) (by omega) (by omega)
    refine wp_seq ((runs_drop frCall _ _ (gr6 _ _ _)).stand (oG4 ..) h7 fun a8 w8 h8 => ?_)
    refine wp_block (wp_loop_rounds 9 (bit_round 8 0 _ a8 w8 rfl hxl (fun a9 w9 h9 => ?_) h8))
    have e3 : shN 8 (r ^^^ (c.toNat * 256)) = crcF (s.data.toList.take (i + 1)) 65535 := by
      rw [shN8, byte_at (by omega), crcF_snoc, hr, hcc]
      rfl
    rw [e3] at h9
    refine (runs_drop frCall _ _ (gr4 _ _ _)).stand (oG2 ..) h9 fun a10 w10 h10 => ?_
    have hw : IntKind.i64.wrap ((i : Int) + 1) = ((i + 1 : Nat) : Int) := by rw [wrapM]; omega
    rw [hw] at h10
    exact ih (i + 1) a10 w10 (by omega) h10
theorem ref_calls (s : ByteArray) (hsz : s.size ≤ 4611686018427387904) (w : World) : Calls Try.prog 10 #[.string s] w fun e w' => ∃ v, e = .returned v ∧ RowKit.Below w.heap.size w w' ∧ v = .int .u16 (crcF s.data.toList 65535 : Nat) := by
  refine calls_of_wp f10_is gC_is ?_
  have hst := Stand.start (N := 32) [.string s] w 4096 frH frT (by simp)
  refine wp_seq ((runs_drop frCall _ _ (gr0 s)).stand (oG0 s) hst fun a1 w1 h1 => ?_)
  refine wp_seq ((runs_drop frCall _ _ (gr1 s)).stand (oG1 ..) h1 fun a2 w2 h2 => ?_)
  refine wp_seq (wp_seq ((runs_drop frCall _ _ (gr2 s)).stand (oG2 ..) h2 fun a3 w3 h3 => ?_))
  refine wp_block (wp_loop_rounds (s.size + 1) (ref_round hsz (fun a8 w8 h8 => ?_) s.size 0 a3 w3 (by omega) h3))
  refine (runs_drop frCall _ _ (grE _ _ _)).stand (oGE ..) h8 fun a9 w9 h9 => ?_
  obtain ⟨y1, y2, y3⟩ := h9.results (P := Try.prog) (fn := Try.f10) (gRes _)
  exact bodyPost_ret y1 y2 ⟨_, rfl, y3.below, rfl⟩
def szOk (p : ByteArray × Unit) : Bool := decide (p.1.size ≤ 4611686018427387904)
def sumN (p : ByteArray × Unit) : N16 := ⟨crcF p.1.data.toList 65535⟩
theorem okSum : SumOk Try.prog 9 (S0w szOk sumN) := S0w_of fun a w h => sum_calls a.1 (of_decide_eq_true h) w
theorem okRef : SumOk Try.prog 10 (S0w szOk sumN) := S0w_of fun a w h => ref_calls a.1 (of_decide_eq_true h) w
end Go.Ab
/- Frames as they stand. -/
namespace Go.Ab
open Go Go.Proofs
structure Fr where
  kind : Int
  data : ByteArray
instance : Cod Fr where
  enc x := .agg #[.int .i64 x.kind, .string x.data]
  dec v := match v with | .agg ⟨[.int .i64 k, .string d]⟩ => some ⟨k, d⟩ | _ => none
  law v a h := by split at h <;> simp_all; subst h; simp
end Go.Ab
/- Slices that grow, by hand. -/
namespace Go.Ab
open Go Go.Proofs
section
variable {P : Program} {N : Nat} {ops : Array Oper} {Q : Exit → Act → World → Prop} {F : Nat → Prop} {w0 : World} {s : St} {a : Act} {w : World}
theorem alloc_old (w : World) (o : Obj) (j : Nat) (hj : j < w.heap.size) : (w.alloc o).heap[j]? = w.heap[j]? := by
  show (w.heap.push o)[j]? = _
  rw [Array.getElem?_push_lt hj, Array.getElem?_eq_getElem hj]
/-- A slice is built in new memory. -/
theorem build_stand {k d len : Nat} {t elem : TypeId} {parts : Array (Nat × Operand)} {vals : List (Nat × Value)} {cells : List Value} (hs : sigOf ops k = some (.buildSlice t len parts, some d, true)) (hd : d < N) (hlen : s.tmps.length = N) (hh : Stand F w0 N s a w)
    (hv : parts.toList.map (fun p => (p.1, a.eval p.2)) = vals) (hc : sliceCells P t len vals = some (elem, cells)) (rest : List Nat)
    (hK : ∀ a', Stand (Wide F w (w.alloc (.cells (List.toArray cells) elem))) (w.alloc (.cells (List.toArray cells) elem)) N { s with tmps := s.tmps.set d (.val (.slice (some ⟨w.heap.size, 0, none⟩) len len)) } a' (w.alloc (.cells (List.toArray cells) elem)) → wpOps P ops Q rest a' (w.alloc (.cells (List.toArray cells) elem))) : wpOps P ops Q (k :: rest) a w := by
  refine op_world hs hd hlen hh (fun o ho => ?_) (by show w.heap.size ≤ (w.heap.push _).size; rw [Array.size_push]; omega) (fun j hj _ => alloc_old w _ j hj) rest hK
  have e1 : (parts.map fun (x : Nat × Operand) => (x.1, a.eval x.2)) = List.toArray vals := by
    rw [← hv]
    apply Array.toList_inj.1
    simp
  have e2 := sliceCells_run (P := P) hc w
  rw [← e1] at e2
  simp only [execOp, ho, Sem.run_bind, e2]
  rfl
/-- A slice grows: in its own row, or in a new one. -/
theorem append_stand {k d : Nat} {x y : Operand} {ts : Array TypeId} {v v' u : Value} {w' : World} (hs : sigOf ops k = some (.call { callee := .builtin .append, args := #[x, y], argTypes := ts }, some d, true)) (hd : d < N) (hlen : s.tmps.length = N) (hh : Stand F w0 N s a w)
    (hx : a.eval x = v) (hy : a.eval y = u) (hrun : ∀ ty, (Builtin.append_ ts ty #[v, u]).run P w = .ok v' w') (hg : w.grownBy w' v.ownBlock) (hF : ∀ r, v.ownBlock = some r → F r) (rest : List Nat)
    (hK : ∀ a', Stand (Wide F w w') w' N { s with tmps := s.tmps.set d (.val v') } a' w' → wpOps P ops Q rest a' w') : wpOps P ops Q (k :: rest) a w := by
  refine op_world hs hd hlen hh (fun o ho => ?_) hg.size (fun j hj hFj => hg.block j hj fun e => hFj (hF j e.symm)) rest hK
  have e : ∀ f : Value → Value, (#[x, y].map a.eval) = #[v, u] := fun _ => by simp [hx, hy]
  simp only [execOp, ho, resolve, invoke, Go.builtin, Sem.run_bind, Sem.run_pure, Result.andThen_ok, hx, hy, List.map_toArray, List.map_cons, List.map_nil, hrun]
end
theorem owns_alloc (w : World) (e : TypeId) (cells : List Value) (n : Nat) (hn : cells.length = n) (hm : n ≤ maxLen) : (w.alloc (.cells (List.toArray cells) e)).ownsRow w.heap.size e 1 (.slice (some ⟨w.heap.size, 0, none⟩) n n) n cells := by
  refine ⟨by omega, .inr ⟨w.heap.size, n, List.toArray cells, rfl, Nat.le_refl _, ?_, Nat.le_refl _, hm, by simp [hn], by simp [← hn]⟩⟩
  show (w.heap.push _)[w.heap.size]? = _
  simp
/-- The bytes that a slice owns, as a string. -/
theorem bytes_string {P : Program} {w : World} {g off len cap : Nat} {src dst e e' : TypeId} {cur : Array Value} {ns : List Int} (hs : P.underlying src = some (.slice e)) (he : P.underlying e = some (.int .u8)) (hd : P.underlying dst = some .string)
    (hg : w.heap[g]? = some (.cells cur e' (0, 0))) (hx : (cur.toList.drop off).take len = ns.map (Value.int .u8)) (hl : ns.length = len) :
    (convert src dst (.slice (some ⟨g, off, none⟩) len cap)).run P w = .ok (.string (ns.foldl pushI ByteArray.empty)) w := by
  have hload := run_loadCells_row (P := P) w g off len e' (0, 0) cur.toList _ hg hx (by simpa using hl)
  rw [run_convert_bytes_string w src dst e _ _ _ hs he hd, run_bytesToString w _ _ _ ns hload]
  rfl
section
variable {P : Program} (w : World)
/-- Behind an append the row is the old one, or a new one. -/
def NewRow (w : World) (v v' : Value) : Prop := ∀ r, v'.ownBlock = some r → v.ownBlock = some r ∨ w.heap.size ≤ r
theorem append_fresh (t ty e : TypeId) (i : TypeInfo) (z : Value) (size bytes : Nat) (ht : P.underlying t = some (.slice e)) (hi : P.info? e = some i) (hz : i.zero = some z)
    (hsize : i.size = size) (hby : i.bytes = bytes) (hzs : z.cells.size = size) (hsz : 0 < size) (base : Nat)
    (v : Value) (n : Nat) (xs : List Value) (hown : w.ownsRow base e size v n xs)
    (a : Addr) (m c : Nat) (news : List Value) (hl : news.length = m * size) (hnews : ∀ j u, news[j]? = some u → w.cell? (a.add j) = some u) (h1 : ∀ u ∈ news, u.oneCell' = true)
    (h63 : n + m ≤ maxLen) (hbytes : (n + m) * bytes ≤ 140737488355328) (hbase : base ≤ w.heap.size) :
    ∃ v' w', (∀ ty, (Builtin.append_ #[t, t] ty #[v, .slice (some a) m c]).run P w = .ok v' w') ∧ w'.ownsRow base e size v' (n + m) (xs ++ news) ∧ w.grownBy w' v.ownBlock ∧ NewRow w v v' := by
  obtain ⟨v', w', hr, h2, h3, h4⟩ := run_append_own (P := P) w base t ty e i z size bytes ht hi hz hsize hby hzs hsz v n xs hown a m c news hl hnews h1 h63 hbytes hbase
  refine ⟨v', w', fun ty => hr, h2, h3, ?_⟩
  subst hsize
  subst hby
  have hsmall : n + m ≤ 9223372036854775807 := by simp only [maxLen] at h63; omega
  rcases hown.2 with ⟨rfl, rfl⟩ | ⟨g, cap, cur, rfl, hbg, hg, hnc, hcm, hcs, htake⟩
  · by_cases hm : m = 0
    · have := h4.2 ⟨rfl, hm⟩
      subst this
      intro r hr'; cases hr'
    · have hq := run_append_nil (P := P) w t ty e i z ht hi hz a m c news hl hnews (by omega) (by omega) (by have hb := hbytes; simp only [Nat.zero_add] at hb; omega)
      rw [hq] at hr
      cases hr
      intro r hr'; cases hr'; exact .inr (Nat.le_refl _)
  · by_cases hroom : n + m ≤ cap
    · have hfit : n * i.size + news.length ≤ cur.size := by rw [hl, hcs, ← Nat.add_mul]; exact Nat.mul_le_mul_right _ hroom
      have hq := run_append_room (P := P) w t ty e i ht hi g n cap cur hg a m c news hl hnews h1 hroom hfit
      rw [hq] at hr
      cases hr
      intro r hr'; exact .inl hr'
    · have holds : ∀ j u, xs[j]? = some u → w.cell? ((⟨g, 0, none⟩ : Addr).add j) = some u := hown.cells (g := g) rfl
      have hq := run_append_grow (P := P) w t ty e i z ht hi hz ⟨g, 0, none⟩ n cap xs hown.1 holds a m c news hl hnews (by omega) (by omega) (growslice_fits (by omega) hbytes)
      rw [hq] at hr
      cases hr
      intro r hr'; cases hr'; exact .inr (Nat.le_refl _)
theorem append_fresh_string (t u ty e : TypeId) (i : TypeInfo) (ht : P.underlying t = some (.slice e)) (hu : P.underlying u = some .string) (hi : P.info? e = some i) (hz : i.zero = some (.int .u8 0))
    (hsize : i.size = 1) (hby : i.bytes = 1) (base : Nat) (v : Value) (n : Nat) (xs : List Value) (hown : w.ownsRow base e 1 v n xs) (hv : 0 < n) (s : ByteArray)
    (h63 : n + s.size ≤ maxLen) (hbytes : n + s.size ≤ 140737488355328) (hbase : base ≤ w.heap.size) :
    ∃ v' w', (∀ ty, (Builtin.append_ #[t, u] ty #[v, .string s]).run P w = .ok v' w') ∧ w'.ownsRow base e 1 v' (n + s.size) (xs ++ Lib.strCells s) ∧ w.grownBy w' v.ownBlock ∧ NewRow w v v' := by
  obtain ⟨v', w', hr, h2, h3, h4⟩ := Lib.run_append_own_string (P := P) w base t u ty e i ht hu hi hz hsize hby v n xs hown s h63 hbytes hbase
  refine ⟨v', w', fun ty => hr, h2, h3, ?_⟩
  rcases hown.2 with ⟨rfl, rfl⟩ | ⟨g, cap, cur, rfl, hbg, hg, hnc, hcm, hcs, htake⟩
  · omega
  · by_cases hroom : n + s.size ≤ cap
    · have hcs' : cur.size = cap := by simpa using hcs
      have hq := Lib.run_append_room_string (P := P) w t u ty e i ht hu hi hsize g n cap cur hg s hroom (by omega)
      rw [hq] at hr
      cases hr
      intro r hr'; exact .inl hr'
    · have holds : ∀ j u, xs[j]? = some u → w.cell? ((⟨g, 0, none⟩ : Addr).add j) = some u := hown.cells (g := g) rfl
      have hq := Lib.run_append_grow_string (P := P) w t u ty e i (.int .u8 0) ht hu hi hz ⟨g, 0, none⟩ n cap xs (by rw [hsize]; exact hown.1) holds s (by omega) (by simp only [maxLen] at h63; omega) (by rw [hby]; exact growslice_fits (by omega) (by omega))
      rw [hq] at hr
      cases hr
      intro r hr'; cases hr'; exact .inr (Nat.le_refl _)
end
end Go.Ab
/- frame.Wrap: its pieces. -/
namespace Go.Ab
open Go Go.Proofs
theorem Stand.resultsV {P : Program} {fn : Func} {F : Nat → Prop} {w0 : World} {N : Nat} {s : St} {a : Act} {w : World} (h : Stand F w0 N s a w) {ls : List AV} {v : Value} (hr : resA P s fn.results.toList = some ls) (hp : pack ls = .val v) :
    (Go.results fn a.tmps).run P w = .ok v w ∧ a.defers = [] ∧ Keep F w0 w := by
  obtain ⟨σ, h1, h2, _⟩ := h
  obtain ⟨x, h3, h4, h5⟩ := h1.results hr
  rw [hp] at h4
  simp only [Rel] at h4
  subst h4
  exact ⟨h3, h5, h2⟩
noncomputable def wC : Code := Try.f12.body.getD .skip
noncomputable def wp0 : Code := seqL wC
noncomputable def wp1 : Code := seqL (seqR wC)
noncomputable def wT : Code := seqR (seqR wC)
noncomputable def wO3 : Array Oper := regO (seqL wT)
noncomputable def wO4 : Array Oper := regO (seqL (seqR wT))
noncomputable def wO5 : Array Oper := regO (seqL (seqR (seqR wT)))
theorem wC_is : Try.f12.body = some (.seq wp0 (.seq wp1 (.seq (.region 3 wO3 false) (.seq (.region 4 wO4 false) (.seq (.region 5 wO5 false) .ret))))) := by kernel_rfl
def wS (k : Int) (s : ByteArray) (sl : List (Nat × Value)) : St := mkSt 44 (sl.map (·.1)) (sl.map (·.2)) [(1, 4096, 0)] [(4096, 26, 2)] [.int .i64 k, .string s] fr2 frH frT
def wE (l : List (Nat × Value)) : St := mkSt 44 (l.map (·.1)) (l.map (·.2)) [] [] [] fr2 frH frT
theorem wq0 (k : Int) (s : ByteArray) : frRun [] 44 wp0 ⟨[Value.agg #[.int .i64 k, .string s]].map .val ++ List.replicate (44 - [Value.agg #[.int .i64 k, .string s]].length) (.val undef), [], 4096, frH, frT, []⟩ [4096] [1] = some (.normal, wS k s []) := by kernel_rfl
theorem wq1 (k : Int) (s : ByteArray) : frRun [] 44 wp1 (wS k s []) [4096] [1, 2, 3] =
    bif decide (k < 0) then some (.ret, wS k s [(2, .string ⟨#[]⟩), (3, .bool false)]) else bif bif false then true else decide (k > 255) then some (.ret, wS k s [(2, .string ⟨#[]⟩), (3, .bool false)]) else
      bif bif false then true else decide ((s.size : Int) > 64) then some (.ret, wS k s [(2, .string ⟨#[]⟩), (3, .bool false)]) else some (.normal, { wS k s [] with tmps := (wS k s []).tmps }) := by kernel_rfl
theorem wq3 (k : Int) (s : ByteArray) : frOps 44 wO3 (wO3.toList.take 7) (wS k s []) [4096] [1, 22, 26] = some (true, wS k s [(22, .int .u8 (IntKind.u8.wrap k)), (26, .int .u8 (IntKind.u8.wrap s.size))]) := by kernel_rfl
theorem wq3b (k x y : Int) (s : ByteArray) (v : Value) : frOps 44 wO3 ((wO3.toList.drop 8).take 2) { wS k s [(22, .int .u8 x), (26, .int .u8 y)] with tmps := (wS k s [(22, .int .u8 x), (26, .int .u8 y)]).tmps.set 27 (.val v) } [4096] [1, 27, 29] = some (true, wS k s [(27, v), (29, .string s)]) := by kernel_rfl
theorem wq3c (k : Int) (s : ByteArray) (v : Value) (a : Option Addr) (n cap : Nat) : frOps 44 wO3 (wO3.toList.drop 11) { wS k s [(27, v), (29, .string s)] with tmps := (wS k s [(27, v), (29, .string s)]).tmps.set 30 (.val (.slice a n cap)) } [4096] [1, 4] = some (true, wS k s [(4, .slice a n cap)]) := by kernel_rfl
theorem wq4 (k : Int) (s : ByteArray) (u x y z : Value) (c : Int) : frOps 44 wO4 (wO4.toList.drop 4) { wS k s [(4, u)] with tmps := ((((wS k s [(4, u)]).tmps.set 31 (.val x)).set 32 (.val y)).set 33 (.val z)).set 34 (.val (.int .u16 c)) } [4096] [1, 4, 5] = some (true, wS k s [(4, u), (5, .int .u16 c)]) := by kernel_rfl
theorem wq5 (k c : Int) (s : ByteArray) (a : Option Addr) (n cap : Nat) : frOps 44 wO5 (wO5.toList.take 6) (wS k s [(4, .slice a n cap), (5, .int .u16 c)]) [4096] [1, 35, 38, 40] = some (true, wS k s [(35, .slice a n cap), (38, .int .u8 (IntKind.u8.wrap (c.fdiv (2 ^ 8)))), (40, .int .u8 (IntKind.u8.wrap c))]) := by kernel_rfl
theorem wq5b (k x y : Int) (s r : ByteArray) (u v z : Value) : frOps 44 wO5 (wO5.toList.drop 9) { wS k s [(35, u), (38, .int .u8 x), (40, .int .u8 y)] with tmps := (((wS k s [(35, u), (38, .int .u8 x), (40, .int .u8 y)]).tmps.set 41 (.val v)).set 42 (.val z)).set 43 (.val (.string r)) } [] [2, 3] = some (true, wE [(2, .string r), (3, .bool true)]) := by kernel_rfl
theorem wqR (r : ByteArray) (b : Bool) : resA Try.prog (wE [(2, .string r), (3, .bool b)]) Try.f12.results.toList = some [.val (.string r), .val (.bool b)] := by kernel_rfl
theorem wqR' (k : Int) (s r : ByteArray) (b : Bool) : resA Try.prog (wS k s [(2, .string r), (3, .bool b)]) Try.f12.results.toList = some [.val (.string r), .val (.bool b)] := by kernel_rfl
theorem wpk (r : ByteArray) (b : Bool) : pack [.val (.string r), .val (.bool b)] = .val (.tuple #[.string r, .bool b]) := by kernel_rfl
theorem t3_7 : sigOf wO3 7 = some (.buildSlice 38 3 #[(0, .const (.int .u8 (Int.ofNat 165))), (1, .tmp 22), (2, .tmp 26)], some 27, true) := by kernel_rfl
theorem t3_10 : sigOf wO3 10 = some (.call { callee := .builtin .append, args := #[.tmp 27, .tmp 29], argTypes := #[38, 9] }, some 30, true) := by kernel_rfl
theorem t3_n : List.range wO3.size = (List.range (wO3.toList.take 7).length).map (0 + ·) ++ (7 :: ((List.range ((wO3.toList.drop 8).take 2).length).map (8 + ·) ++ (10 :: ((List.range (wO3.toList.drop 11).length).map (11 + ·) ++ [])))) := by kernel_rfl
theorem t4_0 : sigOf wO4 0 = some (.move (.tmp 4), some 31, true) := by kernel_rfl
theorem t4_1 : sigOf wO4 1 = some (.slice 38 (.tmp 31) (some (.const (.int .i64 (Int.ofNat 1)))) none none, some 32, true) := by kernel_rfl
theorem t4_2 : sigOf wO4 2 = some (.convert 38 9 (.tmp 32), some 33, true) := by kernel_rfl
def cSum : Call := { callee := .value (.func 9), args := #[.tmp 33], argTypes := #[9] }
theorem t4_3 : sigOf wO4 3 = some (.call cSum, some 34, true) := by kernel_rfl
theorem t4_n : List.range wO4.size = 0 :: 1 :: 2 :: 3 :: ((List.range (wO4.toList.drop 4).length).map (4 + ·) ++ []) := by kernel_rfl
theorem t5_6 : sigOf wO5 6 = some (.buildSlice 38 2 #[(0, .tmp 38), (1, .tmp 40)], some 41, true) := by kernel_rfl
theorem t5_7 : sigOf wO5 7 = some (.call { callee := .builtin .append, args := #[.tmp 35, .tmp 41], argTypes := #[38, 38] }, some 42, true) := by kernel_rfl
theorem t5_8 : sigOf wO5 8 = some (.convert 38 9 (.tmp 42), some 43, true) := by kernel_rfl
theorem t5_n : List.range wO5.size = (List.range (wO5.toList.take 6).length).map (0 + ·) ++ (6 :: 7 :: 8 :: ((List.range (wO5.toList.drop 9).length).map (9 + ·) ++ [])) := by kernel_rfl
section
variable (k x y c : Int) (s r : ByteArray) (u v z : Value) (b : Bool)
theorem ow0 : okNamed (wS k s []) = true := by kernel_rfl
theorem ow1 : okNamed (wS k s [(2, .string r), (3, .bool b)]) = true := by kernel_rfl
theorem ow2 : okNamed (wS k s [(22, .int .u8 x), (26, .int .u8 y)]) = true := by kernel_rfl
theorem ow3 : okNamed (wS k s [(27, v), (29, .string s)]) = true := by kernel_rfl
theorem ow4 : okNamed (wS k s [(4, u)]) = true := by kernel_rfl
theorem ow5 : okNamed (wS k s [(4, u), (5, v)]) = true := by kernel_rfl
theorem ow6 : okNamed (wS k s [(35, u), (38, .int .u8 x), (40, .int .u8 y)]) = true := by kernel_rfl
theorem ow7 : okNamed (wE [(2, .string r), (3, .bool b)]) = true := by kernel_rfl
theorem lw0 : (wS k s []).tmps.length = 44 := by kernel_rfl
theorem lw2 : (wS k s [(22, .int .u8 x), (26, .int .u8 y)]).tmps.length = 44 := by kernel_rfl
theorem lw3 : (wS k s [(27, v), (29, .string s)]).tmps.length = 44 := by kernel_rfl
theorem lw4 : (wS k s [(4, u)]).tmps.length = 44 := by kernel_rfl
theorem lw6 : (wS k s [(35, u), (38, .int .u8 x), (40, .int .u8 y)]).tmps.length = 44 := by kernel_rfl
end
end Go.Ab
/- frame.Wrap: its walk. -/
namespace Go.Ab
open Go Go.Proofs
def bsL (l : List UInt8) : ByteArray := ⟨l.toArray⟩
def bodyL (k : Nat) (d : List UInt8) : List UInt8 := UInt8.ofNat k :: UInt8.ofNat d.length :: d
def wrapL (k : Nat) (d : List UInt8) : List UInt8 := 165 :: (bodyL k d ++ [UInt8.ofNat (crcF (bodyL k d) 65535 / 256), UInt8.ofNat (crcF (bodyL k d) 65535 % 256)])
def wrapV (x : Fr) : Two ByteArray Bool := bif decide (x.kind < 0) || (decide (x.kind > 255) || decide ((x.data.size : Int) > 64)) then ⟨⟨#[]⟩, false⟩ else ⟨bsL (wrapL x.kind.toNat x.data.data.toList), true⟩
def cellsL (l : List UInt8) : List Value := l.map fun b => .int .u8 b.toNat
theorem foldl_pushI : ∀ (l : List UInt8) (r : ByteArray), (l.map (fun b => (b.toNat : Int))).foldl pushI r = ⟨r.data ++ l.toArray⟩
  | [], r => by simp
  | b :: l, r => by
    rw [List.map_cons, List.foldl_cons, foldl_pushI l]
    have e : pushI r (b.toNat : Int) = r.push b := by unfold pushI; rw [Int.toNat_natCast, UInt8.ofNat_toNat]
    rw [e]
    simp [ByteArray.push]
theorem push_bsL (l : List UInt8) : (l.map (fun b => (b.toNat : Int))).foldl pushI ByteArray.empty = bsL l := by
  rw [foldl_pushI]
  show ByteArray.mk (#[] ++ l.toArray) = _
  rw [Array.empty_append]
  rfl
theorem cellsL_eq (l : List UInt8) : cellsL l = (l.map (fun b => (b.toNat : Int))).map (Value.int .u8) := by unfold cellsL; rw [List.map_map]; rfl
/-- What stands of the world at the call's begin. -/
structure Live (W : World) (F : Nat → Prop) (wb : World) : Prop where
  old : ∀ k, k < W.heap.size → F k
  chain : ∀ w'', Keep F wb w'' → Keep (fun k => k < W.heap.size) W w''
theorem Live.start (W : World) : Live W (fun k => k < W.heap.size) W := ⟨fun _ h => h, fun _ h => h⟩
theorem Live.step {W wb w w' : World} {F : Nat → Prop} {N : Nat} {s : St} {a : Act} (h : Live W F wb) (hh : Stand F wb N s a w) (h1 : w'.os = w.os) (h2 : w'.tape = w.tape) (h3 : w'.output = w.output) (hg : w.heap.size ≤ w'.heap.size)
    (hs : ∀ j, j < W.heap.size → w'.heap[j]? = w.heap[j]?) : Live W (Wide F w w') w' := by
  refine ⟨fun k hk => .inl (h.old k hk), fun w'' k => ?_⟩
  have k0 := h.chain w hh.keep
  exact ⟨k.os.trans (h1.trans k0.os), k.tape.trans (h2.trans k0.tape), k.output.trans (h3.trans k0.output), Nat.le_trans k0.grown (Nat.le_trans hg k.grown),
    fun x hx => ⟨hx, (k.frame x (.inl (h.old x hx))).2.trans ((hs x hx).trans (k0.frame x hx).2)⟩⟩
theorem Live.grown {W wb w w' : World} {F : Nat → Prop} {N : Nat} {s : St} {a : Act} (h : Live W F wb) (hh : Stand F wb N s a w) {row : Option Nat} (hg : w.grownBy w' row) (hr : ∀ r, row = some r → W.heap.size ≤ r) : Live W (Wide F w w') w' :=
  h.step hh hg.os hg.tape hg.output hg.size fun j hj => hg.block j (by have := (h.chain w hh.keep).grown; omega) fun e => by have := hr j e.symm; omega
theorem Live.size {W wb w : World} {F : Nat → Prop} {N : Nat} {s : St} {a : Act} (h : Live W F wb) (hh : Stand F wb N s a w) : W.heap.size ≤ w.heap.size := (h.chain w hh.keep).grown
theorem alloc_grown (w : World) (o : Obj) : w.grownBy (w.alloc o) none := ⟨rfl, rfl, rfl, by show w.heap.size ≤ (w.heap.push o).size; rw [Array.size_push]; omega, fun k hk _ => alloc_old w o k hk⟩
theorem owns_keep {w w' : World} {base : Nat} {e : TypeId} {sz : Nat} {v : Value} {n : Nat} {xs : List Value} (h : w.ownsRow base e sz v n xs) (hk : ∀ r, v.ownBlock = some r → w'.heap[r]? = w.heap[r]?) : w'.ownsRow base e sz v n xs := by
  refine ⟨h.1, ?_⟩
  rcases h.2 with h2 | ⟨g, cap, cur, rfl, h3, h4, h5⟩
  · exact .inl h2
  · exact .inr ⟨g, cap, cur, rfl, h3, by rw [hk g rfl]; exact h4, h5⟩
theorem own_form {w : World} {base : Nat} {v : Value} {n : Nat} {xs : List Value} (h : w.ownsRow base 5 1 v n xs) (hn : 0 < n) : ∃ g c cur, v = .slice (some ⟨g, 0, none⟩) n c ∧ n ≤ c ∧ w.heap[g]? = some (.cells cur 5 (0, 0)) ∧ cur.toList.take n = xs := by
  rcases h.2 with ⟨_, h0⟩ | ⟨g, c, cur, e1, e2, e3, e4, _, _, e5⟩
  · omega
  · exact ⟨g, c, cur, e1, e4, e3, by simpa using e5⟩
theorem cells3 (x y : Int) : sliceCells Try.prog 38 3 [(0, .int .u8 (Int.ofNat 165)), (1, .int .u8 x), (2, .int .u8 y)] = some (5, [.int .u8 (Int.ofNat 165), .int .u8 x, .int .u8 y]) := by kernel_rfl
theorem cells2 (x y : Int) : sliceCells Try.prog 38 2 [(0, .int .u8 x), (1, .int .u8 y)] = some (5, [.int .u8 x, .int .u8 y]) := by kernel_rfl
theorem i5b : (Try.prog.info? 5).map (fun i => (i.size, i.bytes)) = some (1, 1) := by kernel_rfl
theorem i5z : ((Try.prog.info? 5).bind (·.zero)) = some (.int .u8 0) := by kernel_rfl
theorem info5 : ∃ ti, Try.prog.info? 5 = some ti ∧ ti.size = 1 ∧ ti.bytes = 1 ∧ ti.zero = some (.int .u8 0) := by
  cases hi : Try.prog.info? 5 with
  | none => have := i5b; rw [hi] at this; cases this
  | some ti =>
    have h1 := i5b
    have h2 := i5z
    rw [hi] at h1 h2
    simp only [Option.map_some, Option.some.injEq, Prod.mk.injEq, Option.bind_some] at h1 h2
    exact ⟨ti, rfl, h1.1, h1.2, h2⟩
theorem ofNat8 {x : Nat} (h : x < 256) : ((UInt8.ofNat x).toNat : Int) = x := by
  rw [UInt8.toNat_ofNat']
  omega
theorem run_cut1 {P : Program} {w : World} {t e : TypeId} {ti : TypeInfo} {g n cap : Nat} (ht : P.underlying t = some (.slice e)) (hi : P.info? e = some ti) (hs : ti.size = 1) (hn : 1 ≤ n) (h1 : 1 < cap) :
    (Instr.sliceAt t (.slice (some ⟨g, 0, none⟩) n cap) (some (.int .i64 1)) none none).run P w = .ok (.slice (some ⟨g, 1, none⟩) (n - 1) (cap - 1)) w := by
  have hb : (0 : Int) ≤ 1 ∧ (1 : Int) ≤ (n : Int) := by omega
  have hne : ¬ cap = 1 := by omega
  have e : (⟨g, 0, none⟩ : Addr).add (1 * 1) = ⟨g, 1, none⟩ := rfl
  simp only [Instr.sliceAt, Instr.slice, Instr.sliceBounds, Instr.sliceBound, asIntOf, Sem.run_bind, Sem.run_pure, run_underlying ht, Result.andThen_ok, if_pos hb, run_sizeOf hi, hs, pure_bind, Option.isSome_none, Int.toNat_one, if_neg hne, Option.map_some, e]
theorem nth5 {l : List Value} {x : Value} (h : x ∈ l) (hl : ∀ u ∈ l, ∃ n, u = .int .u8 n) : x.oneCell' = true := by
  obtain ⟨n, rfl⟩ := hl x h
  rfl
theorem f12_is : Try.prog.funcs[12]? = some Try.f12 := by kernel_rfl
theorem f9_on : (Try.f9.body.isSome && !Try.f9.name == "runtime.NumGoroutine") = true := by kernel_rfl
theorem size_bsL (l : List UInt8) : (bsL l).size = l.length := by show l.toArray.size = _; simp
theorem wrap_bad {w : World} {x : Fr} (hb : wrapV x = ⟨⟨#[]⟩, false⟩) {F : Nat → Prop} {wb : World} (hL : Live w F wb) {a1 : Act} {w1 : World} (h : Stand F wb 44 (wS x.kind x.data [(2, .string ⟨#[]⟩), (3, .bool false)]) a1 w1) :
    bodyPost Try.prog Try.f12 (fun e w' => ∃ v, e = .returned v ∧ RowKit.Below w.heap.size w w' ∧ v = Cod.enc (wrapV x)) .ret a1 w1 := by
  obtain ⟨y1, y2, y3⟩ := h.resultsV (P := Try.prog) (fn := Try.f12) (wqR' ..) (wpk ..)
  exact bodyPost_ret y1 y2 ⟨_, rfl, (hL.chain _ y3).below, by rw [hb]; rfl⟩
theorem wrap_good {w : World} {k : Nat} {s : ByteArray} (hk : k ≤ 255) (hs : s.size ≤ 64) {F : Nat → Prop} {wb : World} (hL : Live w F wb) {a1 : Act} {w1 : World} (h1 : Stand F wb 44 (wS k s []) a1 w1) :
    (Code.seq (.region 3 wO3 false) (.seq (.region 4 wO4 false) (.seq (.region 5 wO5 false) .ret))).wp Try.prog (bodyPost Try.prog Try.f12 (fun e w' => ∃ v, e = .returned v ∧ RowKit.Below w.heap.size w w' ∧ v = .tuple #[.string (bsL (wrapL k s.data.toList)), .bool true])) a1 w1 := by
  have hdl : s.data.toList.length = s.size := rfl
  obtain ⟨ti, hti, ts, tb, tz⟩ := info5
  refine wp_seq (wp_region ?_)
  rw [t3_n]
  refine ops_stand (frCall _) (qf := isSum ([] : Gam)) [4096] _ (wq3 k s) (fun _ _ hj => take_at hj) (ow2 ..) h1 _ fun a2 w2 h2 => ?_
  rw [wrap8, wrap8, Nat.mod_eq_of_lt (by omega), Nat.mod_eq_of_lt (by omega)] at h2
  refine build_stand t3_7 (by omega) (lw2 ..) h2 (vals := [(0, .int .u8 (Int.ofNat 165)), (1, .int .u8 k), (2, .int .u8 s.size)]) ?_ (cells3 _ _) _ fun a3 h3 => ?_
  · have e1 : a2.eval (.tmp 22) = .int .u8 k := h2.eval (t := 22) rfl
    have e2 : a2.eval (.tmp 26) = .int .u8 s.size := h2.eval (t := 26) rfl
    have e0 : a2.eval (.const (.int .u8 (Int.ofNat 165))) = .int .u8 (Int.ofNat 165) := rfl
    simp only [List.map_cons, List.map_nil, e1, e2, e0]
  have L3 := hL.grown h2 (alloc_grown w2 (.cells (List.toArray [.int .u8 (Int.ofNat 165), .int .u8 (k : Int), .int .u8 (s.size : Int)]) 5)) fun _ h => by cases h
  have own3 := owns_alloc w2 5 [.int .u8 (Int.ofNat 165), .int .u8 (k : Int), .int .u8 (s.size : Int)] 3 rfl (by decide)
  generalize hw3 : w2.alloc (.cells (List.toArray [.int .u8 (Int.ofNat 165), .int .u8 (k : Int), .int .u8 (s.size : Int)]) 5) = w3 at h3 L3 own3
  have hsz3 : w3.heap.size = w2.heap.size + 1 := by rw [← hw3]; exact Array.size_push ..
  refine ops_stand (frCall _) (qf := isSum ([] : Gam)) [4096] _ (wq3b k k s.size s (.slice (some ⟨w2.heap.size, 0, none⟩) 3 3)) (fun _ _ hj => mid_at hj) (ow3 ..) h3 _ fun a4 w4 h4 => ?_
  have F2 : Wide F w2 w3 w2.heap.size := .inr ⟨Nat.le_refl _, by omega⟩
  have own4 := owns_keep (w' := w4) own3 fun r hr => by cases hr; exact (h4.keep.frame _ F2).2
  have hb4 : w2.heap.size ≤ w4.heap.size := Nat.le_trans (by omega) h4.keep.grown
  obtain ⟨v5, w5, hr5, own5, g5, n5⟩ := append_fresh_string (P := Try.prog) w4 38 9 0 5 ti v38 v9 hti tz ts tb w2.heap.size _ 3 _ own4 (by omega) s (by simp only [maxLen]; omega) (by omega) hb4
  refine append_stand t3_10 (by omega) (lw3 ..) h4 (v := .slice (some ⟨w2.heap.size, 0, none⟩) 3 3) (u := .string s) (h4.eval (t := 27) rfl) (h4.eval (t := 29) rfl) hr5 g5 (fun r hr => by cases hr; exact F2) _ fun a5 h5 => ?_
  have L5 := L3.grown h4 g5 fun r hr => by cases hr; exact hL.size h2
  obtain ⟨g, c, cur, rfl, hcap, hc5, htk⟩ := own_form own5 (by omega)
  have Fg : Wide (Wide F w2 w3) w4 w5 g := by
    rcases n5 g rfl with h | h
    · cases h; exact .inl F2
    · exact .inr ⟨h, by rw [Array.getElem?_eq_some_iff] at hc5; exact hc5.1⟩
  refine ops_stand (frCall _) (qf := isSum ([] : Gam)) [4096] _ (wq3c k s (.slice (some ⟨w2.heap.size, 0, none⟩) 3 3) (some ⟨g, 0, none⟩) (3 + s.size) c) (fun _ _ hj => drop_at hj) (ow4 ..) h5 [] fun a6 w6 h6 => ?_
  have hc6 : w6.heap[g]? = some (.cells cur 5 (0, 0)) := ((h6.keep.frame _ Fg).2).trans hc5
  generalize hF5 : Wide (Wide F w2 w3) w4 w5 = F5 at *
  refine wp_seq (wp_region ?_)
  rw [t4_n]
  refine move_stand t4_0 (by omega) (lw4 ..) h6 (v := .slice (some ⟨g, 0, none⟩) (3 + s.size) c) (h6.eval (t := 4) rfl) _ fun a7 h7 => ?_
  refine op_here t4_1 (by omega) (by rw [List.length_set]; exact lw4 ..) h7 (v := .slice (some ⟨g, 1, none⟩) (2 + s.size) (c - 1)) (fun o ho => ?_) _ fun a8 h8 => ?_
  · have hx : a7.eval (.tmp 31) = .slice (some ⟨g, 0, none⟩) (3 + s.size) c := h7.eval (t := 31) rfl
    have h1 : a7.eval (.const (.int .i64 (Int.ofNat 1))) = .int .i64 1 := rfl
    have hrun := run_cut1 (P := Try.prog) (w := w6) (g := g) (n := 3 + s.size) (cap := c) v38 hti ts (by omega) (by omega)
    rw [show 3 + s.size - 1 = 2 + s.size by omega] at hrun
    simp only [execOp, ho, hx, h1, Option.map_some, Option.map_none, Sem.run_bind, hrun, Result.andThen_ok, Sem.run_pure]
  have hbody : (cur.toList.drop 1).take (2 + s.size) = ((bodyL k s.data.toList).map (fun b => (b.toNat : Int))).map (Value.int .u8) := by
    rw [List.take_drop, show 1 + (2 + s.size) = 3 + s.size by omega, htk]
    unfold bodyL Lib.strCells
    simp only [List.cons_append, List.nil_append, List.drop_succ_cons, List.drop_zero, List.map_cons, ofNat8 (x := k) (by omega), ofNat8 (x := s.size) (by omega), List.map_map, hdl]
    rfl
  have hstr : (convert 38 9 (.slice (some ⟨g, 1, none⟩) (2 + s.size) (c - 1))).run Try.prog w6 = .ok (.string (bsL (bodyL k s.data.toList))) w6 := by
    rw [bytes_string (g := g) (off := 1) v38 v5 v9 hc6 hbody (by simp [bodyL, hdl]; omega), push_bsL]
  refine op_here t4_2 (by omega) (by rw [List.length_set, List.length_set]; exact lw4 ..) h8 (v := .string (bsL (bodyL k s.data.toList))) (fun o ho => ?_) _ fun a9 h9 => ?_
  · have hx : a8.eval (.tmp 32) = .slice (some ⟨g, 1, none⟩) (2 + s.size) (c - 1) := h8.eval (t := 32) rfl
    simp only [execOp, ho, hx, Sem.run_bind, hstr, Result.andThen_ok, Sem.run_pure]
  have hbl : (bodyL k s.data.toList).length = 2 + s.size := by simp [bodyL, hdl]; omega
  have hxs : a9.eval (.tmp 33) = .string (bsL (bodyL k s.data.toList)) := h9.eval (t := 33) rfl
  refine call_world t4_3 (by omega) (by rw [List.length_set, List.length_set, List.length_set]; exact lw4 ..) h9 rfl f9_is f9_on (args := #[.string (bsL (bodyL k s.data.toList))]) (by simp [cSum, hxs]) (sum_calls (bsL (bodyL k s.data.toList)) (by rw [size_bsL, hbl]; omega) w6) _ fun vc a10 w10 hvc hb10 h10 => ?_
  subst hvc
  have L10 := L5.step h9 hb10.os hb10.tape hb10.output hb10.size fun j hj => hb10.block j (by have := L5.size h9; omega)
  generalize hcr : crcF (bsL (bodyL k s.data.toList)).data.toList 65535 = cr at *
  have hcr' : crcF (bodyL k s.data.toList) 65535 = cr := by rw [← hcr]; simp [bsL]
  have hcl : cr < 65536 := by rw [← hcr']; exact crcF_lt _ _ (by omega)
  refine ops_stand (frCall _) (qf := isSum ([] : Gam)) [4096] _ (wq4 k s (.slice (some ⟨g, 0, none⟩) (3 + s.size) c) (.slice (some ⟨g, 0, none⟩) (3 + s.size) c) (.slice (some ⟨g, 1, none⟩) (2 + s.size) (c - 1)) (.string (bsL (bodyL k s.data.toList))) cr) (fun _ _ hj => drop_at hj) (ow5 ..) h10 [] fun a11 w11 h11 => ?_
  have s6 : w2.heap.size ≤ w6.heap.size := Nat.le_trans hb4 (Nat.le_trans g5.size h6.keep.grown)
  have g6 : g < w6.heap.size := by rw [Array.getElem?_eq_some_iff] at hc6; exact hc6.1
  have hc10 : w10.heap[g]? = some (.cells cur 5 (0, 0)) := (hb10.block g g6).trans hc6
  have F10 : Wide F5 w6 w10 g := .inl Fg
  refine wp_seq (wp_region ?_)
  rw [t5_n]
  refine ops_stand (frCall _) (qf := isSum ([] : Gam)) [4096] _ (wq5 k cr s (some ⟨g, 0, none⟩) (3 + s.size) c) (fun _ _ hj => take_at hj) (ow6 ..) h11 _ fun a12 w12 h12 => ?_
  have e38 : IntKind.u8.wrap ((cr : Int).fdiv (2 ^ 8)) = ((cr / 256 : Nat) : Int) := by rw [shr8, wrap8, Nat.mod_eq_of_lt (by omega)]
  rw [e38, wrap8] at h12
  have hc12 : w12.heap[g]? = some (.cells cur 5 (0, 0)) := ((h12.keep.frame _ F10).2).trans hc10
  refine build_stand t5_6 (by omega) (lw6 ..) h12 (vals := [(0, .int .u8 (cr / 256 : Nat)), (1, .int .u8 (cr % 256 : Nat))]) ?_ (cells2 _ _) _ fun a13 h13 => ?_
  · have e1 : a12.eval (.tmp 38) = .int .u8 (cr / 256 : Nat) := h12.eval (t := 38) rfl
    have e2 : a12.eval (.tmp 40) = .int .u8 (cr % 256 : Nat) := h12.eval (t := 40) rfl
    simp only [List.map_cons, List.map_nil, e1, e2]
  have L13 := L10.grown h12 (alloc_grown w12 (.cells (List.toArray [.int .u8 ((cr / 256 : Nat) : Int), .int .u8 ((cr % 256 : Nat) : Int)]) 5)) fun _ h => by cases h
  have new13 : (w12.alloc (.cells (List.toArray [.int .u8 ((cr / 256 : Nat) : Int), .int .u8 ((cr % 256 : Nat) : Int)]) 5)).heap[w12.heap.size]? = some (.cells (List.toArray [.int .u8 ((cr / 256 : Nat) : Int), .int .u8 ((cr % 256 : Nat) : Int)]) 5 (0, 0)) := by
    show (w12.heap.push _)[w12.heap.size]? = _
    simp
  have g12 : g < w12.heap.size := by rw [Array.getElem?_eq_some_iff] at hc12; exact hc12.1
  have hc13 : (w12.alloc (.cells (List.toArray [.int .u8 ((cr / 256 : Nat) : Int), .int .u8 ((cr % 256 : Nat) : Int)]) 5)).heap[g]? = some (.cells cur 5 (0, 0)) := (alloc_old w12 _ g g12).trans hc12
  have hsz13 : (w12.alloc (.cells (List.toArray [.int .u8 ((cr / 256 : Nat) : Int), .int .u8 ((cr % 256 : Nat) : Int)]) 5)).heap.size = w12.heap.size + 1 := Array.size_push ..
  generalize hw13 : w12.alloc (.cells (List.toArray [.int .u8 ((cr / 256 : Nat) : Int), .int .u8 ((cr % 256 : Nat) : Int)]) 5) = w13 at h13 L13 new13 hc13 hsz13
  have own13 := owns_keep (w' := w13) own5 fun r hr => by cases hr; exact hc13.trans hc5.symm
  have s13 : w2.heap.size ≤ w13.heap.size := by have := hb10.size; have := h12.keep.grown; omega
  obtain ⟨v14, w14, hr14, own14, g14, n14⟩ := append_fresh (P := Try.prog) w13 38 0 5 ti (.int .u8 0) 1 1 v38 hti tz ts tb rfl (by omega) w2.heap.size _ (3 + s.size) _ own13 ⟨w12.heap.size, 0, none⟩ 2 2 [.int .u8 ((cr / 256 : Nat) : Int), .int .u8 ((cr % 256 : Nat) : Int)] rfl
    (fun j u hj => by
      rw [addr_add, Nat.zero_add]
      simp only [World.cell?, new13]
      simpa using hj) (fun u hu => by simp only [List.mem_cons, List.not_mem_nil, or_false] at hu; rcases hu with rfl | rfl <;> rfl) (by simp only [maxLen]; omega) (by omega) s13
  have F13 : Wide (Wide F5 w6 w10) w12 w13 g := .inl F10
  refine append_stand t5_7 (by omega) (by rw [List.length_set]; exact lw6 ..) h13 (v := .slice (some ⟨g, 0, none⟩) (3 + s.size) c) (u := .slice (some ⟨w12.heap.size, 0, none⟩) 2 2) (h13.eval (t := 35) rfl) (h13.eval (t := 41) rfl) hr14 g14 (fun r hr => by cases hr; exact F13) _ fun a14 h14 => ?_
  have L14 := L13.grown h13 g14 fun r hr => by
    cases hr
    rcases n5 g rfl with h | h
    · cases h; exact hL.size h2
    · exact Nat.le_trans (hL.size h2) (Nat.le_trans hb4 h)
  obtain ⟨g2, c2, cur2, rfl, hcap2, hc14, htk2⟩ := own_form own14 (by omega)
  have hbytes : (cur2.toList.drop 0).take (3 + s.size + 2) = ((wrapL k s.data.toList).map (fun b => (b.toNat : Int))).map (Value.int .u8) := by
    rw [List.drop_zero, htk2]
    unfold wrapL
    rw [hcr']
    unfold bodyL Lib.strCells
    simp only [List.cons_append, List.nil_append, List.map_cons, List.map_append, List.map_nil, ofNat8 (x := k) (by omega), hdl, ofNat8 (x := s.size) (by omega), ofNat8 (x := cr / 256) (by omega), ofNat8 (x := cr % 256) (by omega), List.map_map]
    rfl
  have hstr2 : (convert 38 9 (.slice (some ⟨g2, 0, none⟩) (3 + s.size + 2) c2)).run Try.prog w14 = .ok (.string (bsL (wrapL k s.data.toList))) w14 := by
    rw [bytes_string (g := g2) (off := 0) v38 v5 v9 hc14 hbytes (by simp [wrapL, hbl]; omega), push_bsL]
  refine op_here t5_8 (by omega) (by rw [List.length_set, List.length_set]; exact lw6 ..) h14 (v := .string (bsL (wrapL k s.data.toList))) (fun o ho => ?_) _ fun a15 h15 => ?_
  · have hx : a14.eval (.tmp 42) = .slice (some ⟨g2, 0, none⟩) (3 + s.size + 2) c2 := h14.eval (t := 42) rfl
    simp only [execOp, ho, hx, Sem.run_bind, hstr2, Result.andThen_ok, Sem.run_pure]
  refine ops_stand (frCall _) (qf := isSum ([] : Gam)) [] _ (wq5b k (cr / 256 : Nat) (cr % 256 : Nat) s (bsL (wrapL k s.data.toList)) (.slice (some ⟨g, 0, none⟩) (3 + s.size) c) (.slice (some ⟨w12.heap.size, 0, none⟩) 2 2) (.slice (some ⟨g2, 0, none⟩) (3 + s.size + 2) c2)) (fun _ _ hj => drop_at hj) (ow7 ..) h15 [] fun a16 w16 h16 => ?_
  obtain ⟨y1, y2, y3⟩ := h16.resultsV (P := Try.prog) (fn := Try.f12) (wqR ..) (wpk ..)
  exact wp_ret (bodyPost_ret y1 y2 ⟨_, rfl, (L14.chain _ y3).below, rfl⟩)
theorem wrap_calls (x : Fr) (w : World) : Calls Try.prog 12 #[Cod.enc x] w fun e w' => ∃ v, e = .returned v ∧ RowKit.Below w.heap.size w w' ∧ v = Cod.enc (wrapV x) := by
  refine calls_of_wp f12_is wC_is ?_
  have hst := Stand.start (N := 44) [Cod.enc x] w 4096 frH frT (by simp)
  have L0 := Live.start w
  refine wp_seq ((runs_drop frCall _ _ (wq0 x.kind x.data)).stand (ow0 ..) hst fun a1 w1 h1 => ?_)
  have hrun := wq1 x.kind x.data
  by_cases c1 : x.kind < 0
  · rw [decide_eq_true c1, cond_true] at hrun
    exact wp_seq ((runs_drop frCall _ _ hrun).stand (ow1 ..) h1 fun a2 w2 h2 => wrap_bad (by unfold wrapV; rw [decide_eq_true c1]; rfl) L0 h2)
  by_cases c2 : x.kind > 255
  · rw [decide_eq_false c1, cond_false, decide_eq_true c2] at hrun
    exact wp_seq ((runs_drop frCall _ _ hrun).stand (ow1 ..) h1 fun a2 w2 h2 => wrap_bad (by unfold wrapV; rw [decide_eq_false c1, decide_eq_true c2]; rfl) L0 h2)
  by_cases c3 : (x.data.size : Int) > 64
  · rw [decide_eq_false c1, cond_false, decide_eq_false c2, decide_eq_true c3] at hrun
    exact wp_seq ((runs_drop frCall _ _ hrun).stand (ow1 ..) h1 fun a2 w2 h2 => wrap_bad (by unfold wrapV; rw [decide_eq_false c1, decide_eq_false c2, decide_eq_true c3]; rfl) L0 h2)
  rw [decide_eq_false c1, cond_false, decide_eq_false c2, decide_eq_false c3] at hrun
  refine wp_seq ((runs_drop frCall _ _ hrun).stand (ow0 ..) h1 fun a2 w2 h2 => ?_)
  obtain ⟨k, hk⟩ : ∃ k : Nat, x.kind = k := ⟨x.kind.toNat, by omega⟩
  have hv : wrapV x = ⟨bsL (wrapL k x.data.data.toList), true⟩ := by
    unfold wrapV
    rw [decide_eq_false c1, decide_eq_false c2, decide_eq_false c3, hk]
    rfl
  rw [hv]
  have h3 : Stand (fun k => k < w.heap.size) w 44 (wS k x.data []) a2 w2 := by rw [← hk]; exact h2
  exact wrap_good (by omega) (by omega) L0 h3
end Go.Ab
/- Wrap and Open of both packages: what they answer. -/
namespace Go.Ab
open Go Go.Proofs
theorem okWrap : SumOk Try.prog 12 (S0w (fun _ => true) fun (p : Fr × Unit) => wrapV p.1) := S0w_of fun a w _ => wrap_calls a.1 w
def noV : Option (AV × List Con) := some (.val (.tuple #[.string ⟨#[]⟩, .bool false]), [])
theorem ref13 (pre : ByteArray × Unit → Bool) (g : ByteArray × Unit → N16) (k : Int) (s : ByteArray) : fnSum Try.prog { gam := [(10, S0w pre g)] } [] 20 13 [.val (.agg #[.int .i64 k, .string s])] [] =
    let h := List.foldl pushI ByteArray.empty [IntKind.u8.wrap k, IntKind.u8.wrap s.size]
    let b := h ++ s
    let c : Int := (g (b, ())).n
    let e := List.foldl pushI ByteArray.empty [IntKind.u8.wrap (IntKind.u16.wrap (c.tdiv 256)), IntKind.u8.wrap (c.tmod 256)]
    bif decide (k < 0) then noV else bif bif false then true else decide (k > 255) then noV else bif bif false then true else decide ((s.size : Int) > 64) then noV else
      bif decide (((h.size + s.size : Nat) : Int) > 9223372036854775807) then none else bif pre (b, ()) then
        bif decide ((((⟨#[165]⟩ : ByteArray).size + b.size : Nat) : Int) > 9223372036854775807) then none else
          bif decide ((((⟨#[165]⟩ ++ b : ByteArray).size + e.size : Nat) : Int) > 9223372036854775807) then none else some (.val (.tuple #[.string (⟨#[165]⟩ ++ b ++ e), .bool true]), [])
      else none := by kernel_rfl
def noF : Option (AV × List Con) := some (.val (.tuple #[.agg #[.int .i64 0, .string ⟨#[]⟩], .bool false]), [])
def orW (a b : Int) : Int := IntKind.u16.wrap ↑(BitVec.ofInt IntKind.u16.bits a ||| BitVec.ofInt IntKind.u16.bits b).toNat
def byteI (s : ByteArray) (n : Int) : Int := (s.data.toList.getD n.toNat 0).toNat
theorem open14 (pre : ByteArray × Unit → Bool) (g : ByteArray × Unit → N16) (s : ByteArray) : fnSum Try.prog { gam := [(9, S0w pre g)] } [] 20 14 [.val (.string s)] [] =
    let L : Int := s.size
    let m := IntKind.i64.wrap (L - 2)
    bif decide (L < 5) then noF else bif decide (0 ≤ (0 : Int) ∧ 0 < L) then bif bif false then true else byteI s 0 != 165 then noF else
      bif decide (0 ≤ (2 : Int) ∧ 2 < L) then bif bif false then true else IntKind.i64.wrap (byteI s 2) != IntKind.i64.wrap (L - 5) then noF else
        bif bif false then true else decide (IntKind.i64.wrap (L - 5) > 64) then noF else
          bif decide (0 ≤ (1 : Int) ∧ 1 ≤ m ∧ m ≤ L) then bif pre (s.extract (Int.toNat 1) m.toNat, ()) then bif decide (0 ≤ m ∧ m < L) then
            bif decide (0 ≤ IntKind.i64.wrap (m + 1) ∧ IntKind.i64.wrap (m + 1) < L) then
              bif ((g (s.extract (Int.toNat 1) m.toNat, ())).n : Int) != orW (IntKind.u16.wrap (IntKind.u16.wrap (byteI s m) * 2 ^ min (Int.toNat 8) IntKind.u16.bits)) (IntKind.u16.wrap (byteI s (IntKind.i64.wrap (m + 1)))) then noF else
                bif decide (0 ≤ (1 : Int) ∧ 1 < L) then bif decide (0 ≤ (3 : Int) ∧ 3 ≤ m ∧ m ≤ L) then
                  some (.val (.tuple #[.agg #[.int .i64 (IntKind.i64.wrap (byteI s 1)), .string (s.extract (Int.toNat 3) m.toNat)], .bool true]), []) else none else none
            else none else none else none else none
      else none else none := by kernel_rfl
end Go.Ab
/- Wrap and Open of both packages, plain. -/
namespace Go.Ab
open Go Go.Proofs
theorem bsL_data (s : ByteArray) : bsL s.data.toList = s := by unfold bsL; rw [Array.toArray_toList]
theorem data_bsL (l : List UInt8) : (bsL l).data.toList = l := by unfold bsL; simp
theorem bsL_append (a b : List UInt8) : bsL a ++ bsL b = bsL (a ++ b) := ByteArray.mk_append_mk a b
theorem bsL_inj {a b : List UInt8} (h : bsL a = bsL b) : a = b := by
  have := congrArg (fun s : ByteArray => s.data.toList) h
  simpa only [data_bsL] using this
theorem extract_bsL (l : List UInt8) (i j : Nat) : (bsL l).extract i j = bsL ((l.drop i).take (j - i)) := by
  have h : ((bsL l).extract i j).data.toList = (l.drop i).take (j - i) := by
    rw [ByteArray.data_extract]
    unfold bsL
    simp
  rw [← h, bsL_data]
theorem push2 (x y : Nat) (hx : x < 256) (hy : y < 256) : List.foldl pushI ByteArray.empty [(x : Int), (y : Int)] = bsL [UInt8.ofNat x, UInt8.ofNat y] := by
  have := push_bsL [UInt8.ofNat x, UInt8.ofNat y]
  rw [List.map_cons, List.map_cons, List.map_nil, ofNat8 hx, ofNat8 hy] at this
  exact this
theorem okRefWrap : SumOk Try.prog 13 (S0w (fun _ => true) fun (p : Fr × Unit) => wrapV p.1) := by
  have hG : GamOk Try.prog [(10, S0w szOk sumN)] := .cons okRef .nil
  refine S0w_of fun a w _ => ?_
  obtain ⟨⟨k, s⟩, _⟩ := a
  refine Calls.mono (calls_of_sum (E := { gam := [(10, S0w szOk sumN)] }) hG (d := 20) (f := 13) (vals := [.agg #[.int .i64 k, .string s]]) (v := Cod.enc (wrapV ⟨k, s⟩)) ((ref13 szOk sumN k s).trans ?_) w) fun e w' h => ⟨_, h.1, h.2, rfl⟩
  unfold wrapV
  dsimp only
  by_cases c1 : k < 0
  · rw [decide_eq_true c1]; rfl
  by_cases c2 : k > 255
  · rw [decide_eq_false c1, decide_eq_true c2]; rfl
  by_cases c3 : (s.size : Int) > 64
  · rw [decide_eq_false c1, decide_eq_false c2, decide_eq_true c3]; rfl
  rw [decide_eq_false c1, decide_eq_false c2, decide_eq_false c3]
  simp only [cond_false, Bool.or_false]
  obtain ⟨n, rfl⟩ : ∃ n : Nat, k = n := ⟨k.toNat, by omega⟩
  have hdl : s.data.toList.length = s.size := rfl
  have hb : List.foldl pushI ByteArray.empty [IntKind.u8.wrap (n : Int), IntKind.u8.wrap (s.size : Int)] ++ s = bsL (bodyL n s.data.toList) := by
    rw [wrap8, wrap8, Nat.mod_eq_of_lt (by omega), Nat.mod_eq_of_lt (by omega), push2 _ _ (by omega) (by omega)]
    have e := bsL_append [UInt8.ofNat n, UInt8.ofNat s.size] s.data.toList
    rw [bsL_data] at e
    rw [e]
    rfl
  have hhs : (List.foldl pushI ByteArray.empty [IntKind.u8.wrap (n : Int), IntKind.u8.wrap (s.size : Int)]).size = 2 := rfl
  rw [hb, hhs]
  have hbl : (bodyL n s.data.toList).length = 2 + s.size := by simp [bodyL, hdl]; omega
  have hcl := crcF_lt (bodyL n s.data.toList) 65535 (by omega)
  have hc : ((sumN (bsL (bodyL n s.data.toList), ())).n : Int) = (crcF (bodyL n s.data.toList) 65535 : Nat) := by unfold sumN; rw [data_bsL]
  have hsz : szOk (bsL (bodyL n s.data.toList), ()) = true := decide_eq_true (by show (bsL _).size ≤ _; rw [size_bsL, hbl]; omega)
  rw [hc, hsz]
  generalize hcr : crcF (bodyL n s.data.toList) 65535 = cr at *
  have e1 : IntKind.u8.wrap (IntKind.u16.wrap ((cr : Int).tdiv 256)) = ((cr / 256 : Nat) : Int) := by
    have : (cr : Int).tdiv 256 = ((cr / 256 : Nat) : Int) := rfl
    rw [this, wrap16, Nat.mod_eq_of_lt (by omega), wrap8, Nat.mod_eq_of_lt (by omega)]
  have e2 : IntKind.u8.wrap ((cr : Int).tmod 256) = ((cr % 256 : Nat) : Int) := by
    have : (cr : Int).tmod 256 = ((cr % 256 : Nat) : Int) := rfl
    rw [this, wrap8, Nat.mod_eq_of_lt (by omega)]
  rw [e1, e2, push2 _ _ (by omega) (by omega)]
  have e165 : (⟨#[165]⟩ : ByteArray) = bsL [165] := rfl
  rw [e165, bsL_append, bsL_append, size_bsL, size_bsL, size_bsL, size_bsL]
  have hw : [165] ++ bodyL n s.data.toList ++ [UInt8.ofNat (cr / 256), UInt8.ofNat (cr % 256)] = wrapL n s.data.toList := by unfold wrapL; rw [hcr]; rfl
  rw [hw, decide_eq_false (by omega), decide_eq_false (by rw [hbl]; simp; omega), decide_eq_false (by simp [hbl]; omega)]
  rfl
/-- What bytes are opened as. -/
def openV (s : ByteArray) : Two Fr Bool :=
  let l := s.data.toList
  let d := (l.drop 3).take (l.length - 5)
  let k := (l.getD 1 0).toNat
  if 5 ≤ l.length ∧ d.length ≤ 64 ∧ l = wrapL k d then ⟨⟨k, bsL d⟩, true⟩ else ⟨⟨0, ⟨#[]⟩⟩, false⟩
theorem shape5 {l : List UInt8} (h : 5 ≤ l.length) : ∃ a k n d p q, l = a :: k :: n :: (d ++ [p, q]) := by
  match l, h with
  | a :: k :: n :: r, h =>
    have hr : 2 ≤ r.length := by simp at h; omega
    refine ⟨a, k, n, r.take (r.length - 2), r.getD (r.length - 2) 0, r.getD (r.length - 1) 0, ?_⟩
    congr 3
    have e : r = r.take (r.length - 2) ++ r.drop (r.length - 2) := (List.take_append_drop ..).symm
    have e2 : r.drop (r.length - 2) = [r.getD (r.length - 2) 0, r.getD (r.length - 1) 0] := by
      rw [List.drop_eq_getElem_cons (by omega), List.drop_eq_getElem_cons (by omega), List.drop_eq_nil_of_le (by omega)]
      rw [List.getD_eq_getElem?_getD, List.getD_eq_getElem?_getD, List.getElem?_eq_getElem (by omega), List.getElem?_eq_getElem (by omega)]
      have : r.length - 2 + 1 = r.length - 1 := by omega
      simp only [this, Option.getD_some]
    rw [← e2]
    exact e
theorem u8_eq {a : UInt8} {n : Nat} (hn : n < 256) : a = UInt8.ofNat n ↔ a.toNat = n := by
  constructor
  · intro h
    have := ofNat8 hn
    rw [h]
    omega
  · intro h
    apply UInt8.toNat_inj.1
    have := ofNat8 hn
    omega
section
variable {s : ByteArray} {a k n p q : UInt8} {d : List UInt8} (hl : s.data.toList = a :: k :: n :: (d ++ [p, q]))
include hl
theorem openV_of : openV s = if d.length ≤ 64 ∧ a = 165 ∧ n = UInt8.ofNat d.length ∧ p = UInt8.ofNat (crcF (k :: n :: d) 65535 / 256) ∧ q = UInt8.ofNat (crcF (k :: n :: d) 65535 % 256) then ⟨⟨k.toNat, bsL d⟩, true⟩ else ⟨⟨0, ⟨#[]⟩⟩, false⟩ := by
  unfold openV
  dsimp only
  rw [hl]
  have e1 : ((a :: k :: n :: (d ++ [p, q])).drop 3).take ((a :: k :: n :: (d ++ [p, q])).length - 5) = d := by
    have : (a :: k :: n :: (d ++ [p, q])).length - 5 = d.length := by simp
    rw [this]
    simp
  have e2 : (a :: k :: n :: (d ++ [p, q])).getD 1 0 = k := rfl
  rw [e1, e2]
  have hk : UInt8.ofNat k.toNat = k := UInt8.ofNat_toNat
  have key : (5 ≤ (a :: k :: n :: (d ++ [p, q])).length ∧ d.length ≤ 64 ∧ a :: k :: n :: (d ++ [p, q]) = wrapL k.toNat d) ↔
      (d.length ≤ 64 ∧ a = 165 ∧ n = UInt8.ofNat d.length ∧ p = UInt8.ofNat (crcF (k :: n :: d) 65535 / 256) ∧ q = UInt8.ofNat (crcF (k :: n :: d) 65535 % 256)) := by
    unfold wrapL bodyL
    rw [hk]
    constructor
    · rintro ⟨_, h2, h3⟩
      simp only [List.cons_append, List.cons.injEq, true_and] at h3
      obtain ⟨h4, h5, h6⟩ := h3
      rw [← h5] at h6
      have := List.append_cancel_left h6
      simp only [List.cons.injEq, and_true] at this
      exact ⟨h2, h4, h5, this⟩
    · rintro ⟨h2, h4, h5, h6, h7⟩
      refine ⟨by simp, h2, ?_⟩
      rw [← h5, ← h6, ← h7, h4]
      rfl
  by_cases h : d.length ≤ 64 ∧ a = 165 ∧ n = UInt8.ofNat d.length ∧ p = UInt8.ofNat (crcF (k :: n :: d) 65535 / 256) ∧ q = UInt8.ofNat (crcF (k :: n :: d) 65535 % 256)
  · rw [if_pos h, if_pos (key.2 h)]
  · rw [if_neg h, if_neg fun g => h (key.1 g)]
theorem size_of : s.size = d.length + 5 := by
  have h : s.data.toList.length = s.size := rfl
  rw [← h, hl]
  simp
theorem byte0 : byteI s 0 = a.toNat := by unfold byteI; rw [hl]; rfl
theorem byte1 : byteI s 1 = k.toNat := by unfold byteI; rw [hl]; rfl
theorem byte2 : byteI s 2 = n.toNat := by unfold byteI; rw [hl]; rfl
theorem byteP {i : Int} (hi : i = d.length + 3) : byteI s i = p.toNat := by
  have : i.toNat = d.length + 3 := by omega
  unfold byteI
  rw [hl, this]
  simp [List.getD_eq_getElem?_getD]
theorem byteQ {i : Int} (hi : i = d.length + 4) : byteI s i = q.toNat := by
  have : i.toNat = d.length + 4 := by omega
  unfold byteI
  rw [hl, this]
  simp [List.getD_eq_getElem?_getD]
theorem cut1 {m : Nat} (hm : m = d.length + 3) : s.extract 1 m = bsL (k :: n :: d) := by
  rw [← bsL_data s, extract_bsL, hl]
  have : m - 1 = d.length + 2 := by omega
  rw [this]
  simp
theorem cut3 {m : Nat} (hm : m = d.length + 3) : s.extract 3 m = bsL d := by
  rw [← bsL_data s, extract_bsL, hl]
  have : m - 3 = d.length := by omega
  rw [this]
  simp
end
theorem orW_eq {p q : Nat} (hp : p < 256) (hq : q < 256) : orW (IntKind.u16.wrap (IntKind.u16.wrap (p : Int) * 2 ^ min (Int.toNat 8) IntKind.u16.bits)) (IntKind.u16.wrap (q : Int)) = ((p * 256 + q : Nat) : Int) := by
  have e8 : min (Int.toNat 8) IntKind.u16.bits = 8 := rfl
  rw [e8, wrap16, Nat.mod_eq_of_lt (by omega), shl8, wrap16, Nat.mod_eq_of_lt (by omega), Nat.mod_eq_of_lt (by omega)]
  have h : (BitVec.ofInt IntKind.u16.bits ((p * 256 : Nat) : Int) ||| BitVec.ofInt IntKind.u16.bits (q : Int)).toNat = p * 256 + q := by
    show (BitVec.ofInt 16 ((p * 256 : Nat) : Int) ||| BitVec.ofInt 16 (q : Int)).toNat = _
    rw [BitVec.ofInt_natCast, BitVec.ofInt_natCast, BitVec.toNat_or, BitVec.toNat_ofNat, BitVec.toNat_ofNat, Nat.mod_eq_of_lt (by omega), Nat.mod_eq_of_lt (by omega)]
    have := Nat.two_pow_add_eq_or_of_lt (i := 8) (b := q) (by omega) p
    rw [show 2 ^ 8 * p = p * 256 by omega] at this
    rw [this]
  unfold orW
  rw [h, wrap16, Nat.mod_eq_of_lt (by omega)]
theorem small_open {s : ByteArray} (h : s.size < 5) : openV s = ⟨⟨0, ⟨#[]⟩⟩, false⟩ := by
  unfold openV
  dsimp only
  have hl : s.data.toList.length = s.size := rfl
  rw [if_neg fun g => by omega]
theorem okOpen : SumOk Try.prog 14 (S0w szOk fun (p : ByteArray × Unit) => openV p.1) := by
  have hG : GamOk Try.prog [(9, S0w szOk sumN)] := .cons okSum .nil
  refine S0w_of fun a w hp => ?_
  obtain ⟨s, _⟩ := a
  have hsz : s.size ≤ 4611686018427387904 := of_decide_eq_true hp
  refine Calls.mono (calls_of_sum (E := { gam := [(9, S0w szOk sumN)] }) hG (d := 20) (f := 14) (vals := [.string s]) (v := Cod.enc (openV s)) ((open14 szOk sumN s).trans ?_) w) fun e w' h => ⟨_, h.1, h.2, rfl⟩
  dsimp only
  by_cases h5 : (s.size : Int) < 5
  · rw [decide_eq_true h5, small_open (by omega)]; rfl
  rw [decide_eq_false h5, cond_false]
  obtain ⟨a, k, n, d, p, q, hl⟩ := shape5 (l := s.data.toList) (by have hl : s.data.toList.length = s.size := rfl; omega)
  have hs := size_of hl
  have ha := a.toNat_lt
  have hk := k.toNat_lt
  have hn := n.toNat_lt
  have hpp := p.toNat_lt
  have hq := q.toNat_lt
  have hcl := crcF_lt (k :: n :: d) 65535 (by omega)
  have w2 : IntKind.i64.wrap ((s.size : Int) - 2) = ((d.length + 3 : Nat) : Int) := by rw [wrapM]; omega
  have w5 : IntKind.i64.wrap ((s.size : Int) - 5) = (d.length : Int) := by rw [wrapM]; omega
  have w3 : IntKind.i64.wrap (((d.length + 3 : Nat) : Int) + 1) = ((d.length + 4 : Nat) : Int) := by rw [wrapM]; omega
  have wn : IntKind.i64.wrap (n.toNat : Int) = (n.toNat : Int) := by rw [wrapM]; omega
  have wk : IntKind.i64.wrap (k.toNat : Int) = (k.toNat : Int) := by rw [wrapM]; omega
  have cut1' : s.extract (Int.toNat 1) (((d.length + 3 : Nat) : Int)).toNat = bsL (k :: n :: d) := cut1 hl (by omega)
  have cut3' : s.extract (Int.toNat 3) (((d.length + 3 : Nat) : Int)).toNat = bsL d := cut3 hl (by omega)
  have hsum : ((sumN (bsL (k :: n :: d), ())).n : Int) = (crcF (k :: n :: d) 65535 : Nat) := by unfold sumN; rw [data_bsL]
  rw [openV_of hl, w2, w3, w5, byte0 hl, byte1 hl, byte2 hl, wn, wk, byteP hl (by omega), byteQ hl (by omega), orW_eq hpp hq, cut1', cut3', hsum]
  have hpre : szOk (bsL (k :: n :: d), ()) = true := decide_eq_true (by show (bsL _).size ≤ _; rw [size_bsL]; simp; omega)
  rw [hpre, decide_eq_true (p := 0 ≤ (0 : Int) ∧ 0 < (s.size : Int)) (by omega), decide_eq_true (p := 0 ≤ (2 : Int) ∧ 2 < (s.size : Int)) (by omega), decide_eq_true (p := 0 ≤ (1 : Int) ∧ 1 ≤ ((d.length + 3 : Nat) : Int) ∧ ((d.length + 3 : Nat) : Int) ≤ (s.size : Int)) (by omega),
    decide_eq_true (p := 0 ≤ ((d.length + 3 : Nat) : Int) ∧ ((d.length + 3 : Nat) : Int) < (s.size : Int)) (by omega), decide_eq_true (p := 0 ≤ ((d.length + 4 : Nat) : Int) ∧ ((d.length + 4 : Nat) : Int) < (s.size : Int)) (by omega), decide_eq_true (p := 0 ≤ (1 : Int) ∧ 1 < (s.size : Int)) (by omega),
    decide_eq_true (p := 0 ≤ (3 : Int) ∧ 3 ≤ ((d.length + 3 : Nat) : Int) ∧ ((d.length + 3 : Nat) : Int) ≤ (s.size : Int)) (by omega)]
  simp only [cond_true, cond_false]
  by_cases c1 : a = 165
  · have b1 : ((a.toNat : Int) != 165) = false := by rw [c1]; rfl
    rw [b1, cond_false]
    by_cases c2 : (n.toNat : Int) = (d.length : Int)
    · have b2 : ((n.toNat : Int) != (d.length : Int)) = false := by rw [c2]; simp
      rw [b2, cond_false]
      by_cases c3 : (d.length : Int) > 64
      · rw [decide_eq_true c3, if_neg fun g => by omega]; rfl
      · rw [decide_eq_false c3, cond_false]
        by_cases c4 : crcF (k :: n :: d) 65535 = p.toNat * 256 + q.toNat
        · have b4 : (((crcF (k :: n :: d) 65535 : Nat) : Int) != ((p.toNat * 256 + q.toNat : Nat) : Int)) = false := by rw [c4]; simp
          rw [b4, cond_false, if_pos ⟨by omega, c1, (u8_eq (by omega)).2 (by omega), (u8_eq (by omega)).2 (by omega), (u8_eq (by omega)).2 (by omega)⟩]
          rfl
        · have b4 : (((crcF (k :: n :: d) 65535 : Nat) : Int) != ((p.toNat * 256 + q.toNat : Nat) : Int)) = true := bne_iff_ne.2 (by omega)
          rw [b4, if_neg fun g => by
            have g1 := (u8_eq (a := p) (by omega)).1 g.2.2.2.1
            have g2 := (u8_eq (a := q) (by omega)).1 g.2.2.2.2
            omega]
          rfl
    · have b2 : ((n.toNat : Int) != (d.length : Int)) = true := bne_iff_ne.2 c2
      rw [b2, if_neg fun g => by
        have g1 := (u8_eq (a := n) (by omega)).1 g.2.2.1
        omega]
      rfl
  · have b1 : ((a.toNat : Int) != 165) = true := bne_iff_ne.2 fun e => c1 ((u8_eq (n := 165) (by omega)).2 (by omega))
    rw [b1, if_neg fun g => c1 g.2.1]
    rfl
theorem open15 (pre : Fr × Unit → Bool) (g : Fr × Unit → Two ByteArray Bool) (s : ByteArray) : fnSum Try.prog { gam := [(13, S0w pre g)] } [] 20 15 [.val (.string s)] [] =
    let L : Int := s.size
    let m := IntKind.i64.wrap (L - 2)
    let x : Fr := ⟨IntKind.i64.wrap (byteI s 1), s.extract (Int.toNat 3) m.toNat⟩
    bif decide (L < 5) then noF else bif decide (0 ≤ (1 : Int) ∧ 1 < L) then bif decide (0 ≤ (3 : Int) ∧ 3 ≤ m ∧ m ≤ L) then bif pre (x, ()) then
      bif !(g (x, ())).b then noF else bif bif false then true else !((g (x, ())).a.toList == s.toList) then noF else some (.val (.tuple #[.agg #[.int .i64 x.kind, .string x.data], .bool true]), [])
    else none else none else none := by kernel_rfl
theorem okRefOpen : SumOk Try.prog 15 (S0w szOk fun (p : ByteArray × Unit) => openV p.1) := by
  have hG : GamOk Try.prog [(13, S0w (fun _ => true) fun (p : Fr × Unit) => wrapV p.1)] := .cons okRefWrap .nil
  refine S0w_of fun a w hp => ?_
  obtain ⟨s, _⟩ := a
  have hsz : s.size ≤ 4611686018427387904 := of_decide_eq_true hp
  refine Calls.mono (calls_of_sum (E := { gam := [(13, S0w (fun _ => true) fun (p : Fr × Unit) => wrapV p.1)] }) hG (d := 20) (f := 15) (vals := [.string s]) (v := Cod.enc (openV s)) ((open15 (fun _ => true) (fun p => wrapV p.1) s).trans ?_) w) fun e w' h => ⟨_, h.1, h.2, rfl⟩
  dsimp only
  by_cases h5 : (s.size : Int) < 5
  · rw [decide_eq_true h5, small_open (by omega)]; rfl
  rw [decide_eq_false h5, cond_false]
  obtain ⟨a, k, n, d, p, q, hl⟩ := shape5 (l := s.data.toList) (by have hl : s.data.toList.length = s.size := rfl; omega)
  have hs := size_of hl
  have hk := k.toNat_lt
  have w2 : IntKind.i64.wrap ((s.size : Int) - 2) = ((d.length + 3 : Nat) : Int) := by rw [wrapM]; omega
  have wk : IntKind.i64.wrap (k.toNat : Int) = (k.toNat : Int) := by rw [wrapM]; omega
  have cut3' : s.extract (Int.toNat 3) (((d.length + 3 : Nat) : Int)).toNat = bsL d := cut3 hl (by omega)
  rw [w2, byte1 hl, wk, cut3', decide_eq_true (p := 0 ≤ (1 : Int) ∧ 1 < (s.size : Int)) (by omega), decide_eq_true (p := 0 ≤ (3 : Int) ∧ 3 ≤ ((d.length + 3 : Nat) : Int) ∧ ((d.length + 3 : Nat) : Int) ≤ (s.size : Int)) (by omega)]
  simp only [cond_true, cond_false]
  have hd64 : (bsL d).size = d.length := size_bsL d
  have hop : openV s = if d.length ≤ 64 ∧ s = bsL (wrapL k.toNat d) then ⟨⟨k.toNat, bsL d⟩, true⟩ else ⟨⟨0, ⟨#[]⟩⟩, false⟩ := by
    unfold openV
    dsimp only
    have e1 : (s.data.toList.drop 3).take (s.data.toList.length - 5) = d := by
      have : (s.data.toList).length - 5 = d.length := by rw [hl]; simp
      rw [this, hl]
      simp
    have e2 : s.data.toList.getD 1 0 = k := by rw [hl]; rfl
    have e3 : 5 ≤ s.data.toList.length := by rw [hl]; simp
    have e4 : s.data.toList = wrapL k.toNat d ↔ s = bsL (wrapL k.toNat d) := by
      constructor
      · intro h; rw [← h, bsL_data]
      · intro h; rw [h, data_bsL]
    rw [e1, e2]
    by_cases h : d.length ≤ 64 ∧ s = bsL (wrapL k.toNat d)
    · rw [if_pos h, if_pos ⟨e3, h.1, e4.2 h.2⟩]
    · rw [if_neg h, if_neg fun g => h ⟨g.2.1, e4.1 g.2.2⟩]
  rw [hop]
  by_cases c3 : (d.length : Int) > 64
  · have hw : wrapV ⟨(k.toNat : Int), bsL d⟩ = ⟨⟨#[]⟩, false⟩ := by
      unfold wrapV
      dsimp only
      rw [hd64, decide_eq_true c3, Bool.or_true, Bool.or_true]
      rfl
    rw [hw, if_neg fun g => by omega]
    rfl
  · have hw : wrapV ⟨(k.toNat : Int), bsL d⟩ = ⟨bsL (wrapL k.toNat d), true⟩ := by
      unfold wrapV
      dsimp only
      rw [hd64, decide_eq_false c3, decide_eq_false (by omega), decide_eq_false (by omega), data_bsL]
      rfl
    rw [hw]
    simp only [Bool.not_true, cond_false]
    have hbeq : ((bsL (wrapL k.toNat d)).toList == s.toList) = decide (s = bsL (wrapL k.toNat d)) := by
      rw [ByteArray.toList_eq, ByteArray.toList_eq, data_bsL]
      by_cases h : s = bsL (wrapL k.toNat d)
      · rw [decide_eq_true h, h, data_bsL]; simp
      · rw [decide_eq_false h]
        apply beq_eq_false_iff_ne.2
        intro g
        exact h (by rw [g, bsL_data])
    rw [hbeq]
    by_cases h : s = bsL (wrapL k.toNat d)
    · rw [decide_eq_true h, if_pos ⟨by omega, h⟩]; rfl
    · rw [decide_eq_false h, if_neg fun g => h g.2]; rfl
end Go.Ab
