/- A part of the proof of 'FrameOpens': lemmas, no statement of their own; no condition. -/
import Derived.Test.YtanilhagglikjaaWrM
/- The sum, plain: bytes by the table are bytes bit by bit. -/
namespace Go.Ab
open Go
def xorV (k : IntKind) (a b : Int) : Int := k.wrap ↑(BitVec.ofInt k.bits a ^^^ BitVec.ofInt k.bits b).toNat
theorem wrap8 (x : Nat) : IntKind.u8.wrap (x : Int) = ((x % 256 : Nat) : Int) := by
  simp [IntKind.wrap, IntKind.bits, IntKind.signed]
theorem wrap16 (x : Nat) : IntKind.u16.wrap (x : Int) = ((x % 65536 : Nat) : Int) := by
  simp [IntKind.wrap, IntKind.bits, IntKind.signed]
theorem xor8 {a b : Nat} (ha : a < 256) (hb : b < 256) : xorV .u8 a b = ((a ^^^ b : Nat) : Int) := by
  have h : a ^^^ b < 2 ^ 8 := Nat.xor_lt_two_pow (by omega) (by omega)
  have e : (BitVec.ofInt IntKind.u8.bits (a : Int) ^^^ BitVec.ofInt IntKind.u8.bits (b : Int)).toNat = a ^^^ b := by
    show (BitVec.ofInt 8 (a : Int) ^^^ BitVec.ofInt 8 (b : Int)).toNat = _
    rw [BitVec.ofInt_natCast, BitVec.ofInt_natCast, BitVec.toNat_xor, BitVec.toNat_ofNat, BitVec.toNat_ofNat, Nat.mod_eq_of_lt (by omega), Nat.mod_eq_of_lt (by omega)]
  unfold xorV
  rw [e, wrap8, Nat.mod_eq_of_lt (by omega)]
theorem xor16 {a b : Nat} (ha : a < 65536) (hb : b < 65536) : xorV .u16 a b = ((a ^^^ b : Nat) : Int) := by
  have h : a ^^^ b < 2 ^ 16 := Nat.xor_lt_two_pow (by omega) (by omega)
  have e : (BitVec.ofInt IntKind.u16.bits (a : Int) ^^^ BitVec.ofInt IntKind.u16.bits (b : Int)).toNat = a ^^^ b := by
    show (BitVec.ofInt 16 (a : Int) ^^^ BitVec.ofInt 16 (b : Int)).toNat = _
    rw [BitVec.ofInt_natCast, BitVec.ofInt_natCast, BitVec.toNat_xor, BitVec.toNat_ofNat, BitVec.toNat_ofNat, Nat.mod_eq_of_lt (by omega), Nat.mod_eq_of_lt (by omega)]
  unfold xorV
  rw [e, wrap16, Nat.mod_eq_of_lt (by omega)]
/-- One bit, and eight. -/
def sh1 (r : Nat) : Nat := (r * 2 % 65536) ^^^ (r / 32768 * 4129)
def sh8 (r : Nat) : Nat := sh1 (sh1 (sh1 (sh1 (sh1 (sh1 (sh1 (sh1 r)))))))
theorem sh1_lt {r : Nat} (h : r < 65536) : sh1 r < 65536 := by
  unfold sh1
  have h2 : r / 32768 * 4129 < 65536 := by
    have : r / 32768 < 2 := by omega
    omega
  exact Nat.xor_lt_two_pow (n := 16) (by omega) h2
theorem sh8_lt {r : Nat} (h : r < 65536) : sh8 r < 65536 := by
  unfold sh8
  exact sh1_lt (sh1_lt (sh1_lt (sh1_lt (sh1_lt (sh1_lt (sh1_lt (sh1_lt h)))))))
theorem div_xor {a b : Nat} : (a ^^^ b) / 32768 = (a / 32768) ^^^ (b / 32768) := by
  have e : ∀ x : Nat, x / 32768 = x >>> 15 := fun x => by rw [Nat.shiftRight_eq_div_pow]
  rw [e, e, e, Nat.shiftRight_xor_distrib]
theorem dbl_xor {a b : Nat} : (a ^^^ b) * 2 % 65536 = (a * 2 % 65536) ^^^ (b * 2 % 65536) := by
  have e : ∀ x : Nat, x * 2 % 65536 = (x <<< 1) % 2 ^ 16 := fun x => by rw [Nat.shiftLeft_eq]
  rw [e, e, e, Nat.shiftLeft_xor_distrib, Nat.xor_mod_two_pow]
theorem xor4 (x y z v : Nat) : (x ^^^ y) ^^^ (z ^^^ v) = (x ^^^ z) ^^^ (y ^^^ v) := by rw [Nat.xor_assoc, ← Nat.xor_assoc y z v, Nat.xor_comm y z, Nat.xor_assoc z y v, ← Nat.xor_assoc x z]
theorem xor3 {r z y w : Nat} (h : r = z ^^^ y) : r ^^^ w = z ^^^ (y ^^^ w) := by rw [h, Nat.xor_assoc]
theorem sh1_xor {a b : Nat} (ha : a < 65536) (hb : b < 65536) : sh1 (a ^^^ b) = sh1 a ^^^ sh1 b := by
  unfold sh1
  rw [div_xor, dbl_xor]
  have h1 : a / 32768 = 0 ∨ a / 32768 = 1 := by omega
  have h2 : b / 32768 = 0 ∨ b / 32768 = 1 := by omega
  have key : ((a / 32768) ^^^ (b / 32768)) * 4129 = (a / 32768 * 4129) ^^^ (b / 32768 * 4129) := by
    rcases h1 with h1 | h1 <;> rcases h2 with h2 | h2 <;> rw [h1, h2] <;> rfl
  rw [key]
  exact xor4 _ _ _ _
theorem sh8_xor {a b : Nat} (ha : a < 65536) (hb : b < 65536) : sh8 (a ^^^ b) = sh8 a ^^^ sh8 b := by
  unfold sh8
  have l1 : ∀ {x : Nat}, x < 65536 → sh1 x < 65536 := sh1_lt
  rw [sh1_xor ha hb, sh1_xor (l1 ha) (l1 hb), sh1_xor (l1 (l1 ha)) (l1 (l1 hb)), sh1_xor (l1 (l1 (l1 ha))) (l1 (l1 (l1 hb))), sh1_xor (l1 (l1 (l1 (l1 ha)))) (l1 (l1 (l1 (l1 hb)))),
    sh1_xor (l1 (l1 (l1 (l1 (l1 ha))))) (l1 (l1 (l1 (l1 (l1 hb))))), sh1_xor (l1 (l1 (l1 (l1 (l1 (l1 ha)))))) (l1 (l1 (l1 (l1 (l1 (l1 hb)))))), sh1_xor (l1 (l1 (l1 (l1 (l1 (l1 (l1 ha))))))) (l1 (l1 (l1 (l1 (l1 (l1 (l1 hb)))))))]
theorem sh8_low : ∀ x : Fin 256, sh8 x.val = x.val * 256 := by decide +kernel
/-- One byte by the table, and bit by bit. -/
def stT (r c : Nat) : Nat := (r * 256 % 65536) ^^^ sh8 ((r / 256 ^^^ c) * 256)
def stR (r c : Nat) : Nat := sh8 (r ^^^ (c * 256))
theorem st_eq {r c : Nat} (hr : r < 65536) (hc : c < 256) : stT r c = stR r c := by
  have e : r ^^^ (c * 256) = (r % 256) ^^^ ((r / 256 ^^^ c) * 256) := by
    have h1 : r = (r % 256) ^^^ (r / 256 * 256) := by
      have h2 : r % 256 < 2 ^ 8 := by omega
      have := Nat.two_pow_add_eq_or_of_lt h2 (r / 256)
      apply Nat.eq_of_testBit_eq
      intro i
      rw [Nat.testBit_xor]
      have e1 : r % 256 = r % 2 ^ 8 := rfl
      have e2 : r / 256 * 256 = (r >>> 8) <<< 8 := by rw [Nat.shiftLeft_eq, Nat.shiftRight_eq_div_pow]
      rw [e1, e2, Nat.testBit_mod_two_pow, Nat.testBit_shiftLeft, Nat.testBit_shiftRight]
      by_cases hi : i < 8
      · simp [hi, show ¬ 8 ≤ i by omega]
      · simp [hi, show 8 ≤ i by omega, show 8 + (i - 8) = i by omega]
    have h3 : (r / 256 ^^^ c) * 256 = (r / 256 * 256) ^^^ (c * 256) := by
      have e : ∀ x : Nat, x * 256 = x <<< 8 := fun x => by rw [Nat.shiftLeft_eq]
      rw [e, e, e, Nat.shiftLeft_xor_distrib]
    rw [h3]
    exact xor3 h1
  have hx : r / 256 ^^^ c < 2 ^ 8 := Nat.xor_lt_two_pow (by omega) (by omega)
  unfold stT stR
  rw [e, sh8_xor (by omega) (by omega)]
  have := sh8_low ⟨r % 256, by omega⟩
  simp only at this
  rw [this]
  congr 1
  omega
theorem st_lt {r c : Nat} (hr : r < 65536) (hc : c < 256) : stR r c < 65536 := by
  unfold stR
  exact sh8_lt (Nat.xor_lt_two_pow (n := 16) (by omega) (by omega))
/-- The sum of bytes. -/
def crcR (l : List UInt8) : Nat := l.foldl (fun r b => stR r b.toNat) 65535
def crcF (l : List UInt8) (r : Nat) : Nat := l.foldl (fun r b => stR r b.toNat) r
theorem crcF_lt : ∀ (l : List UInt8) (r : Nat), r < 65536 → crcF l r < 65536
  | [], r, h => h
  | b :: l, r, h => by
    unfold crcF
    rw [List.foldl_cons]
    exact crcF_lt l _ (st_lt h b.toNat_lt)
end Go.Ab
