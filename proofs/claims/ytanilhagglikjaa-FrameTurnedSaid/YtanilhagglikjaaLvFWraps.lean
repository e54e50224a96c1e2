/- A part of the proof of 'FrameTurned': lemmas, no statement of their own; no condition. -/
import Derived.Test.YtanilhagglikjaaFrTwo
/- FrameWraps and FrameOpens. -/
namespace Go.Ab
open Go Go.Proofs
def fgam (aw : Unit → Bool) (p q : Fr × Unit → Two ByteArray Bool) (po : ByteArray × Unit → Bool) (op oq : ByteArray × Unit → Two Fr Bool) : Gam := [(11, S0w (fun _ => true) aw), (12, S0w (fun _ => true) p), (13, S0w (fun _ => true) q), (14, S0w po op), (15, S0w po oq)]
def sayB (b : Bool) : Option (AV × List Con) := some (.val (.bool b), [])
theorem law4 (aw : Unit → Bool) (p q : Fr × Unit → Two ByteArray Bool) (po : ByteArray × Unit → Bool) (op oq : ByteArray × Unit → Two Fr Bool) (k : Int) (s : ByteArray) : fnSum Try.prog { gam := fgam aw p q po op oq } [] 20 4 [.val (.agg #[.int .i64 k, .string s])] [] =
    let x : Fr := ⟨k, s⟩
    let r := p (x, ())
    let t := q (x, ())
    let y := op (r.a, ())
    bif !aw () then sayB false else bif !(r.a.toList == t.a.toList) then sayB false else bif bif false then true else !(r.b == t.b) then sayB false else
      bif po (r.a, ()) then bif y.b == r.b then bif !r.b then sayB (bif true then true else false) else sayB (bif true then (bif false then true else (k == y.a.kind && (s == y.a.data && true))) else false) else sayB false else none := by kernel_rfl
theorem law5 (aw : Unit → Bool) (p q : Fr × Unit → Two ByteArray Bool) (po : ByteArray × Unit → Bool) (op oq : ByteArray × Unit → Two Fr Bool) (s : ByteArray) : fnSum Try.prog { gam := fgam aw p q po op oq } [] 20 5 [.val (.string s)] [] =
    let x := op (s, ())
    let y := oq (s, ())
    let t := p (⟨x.a.kind, x.a.data⟩, ())
    bif !aw () then sayB false else bif decide ((s.size : Int) > 5000) then sayB true else bif po (s, ()) then bif po (s, ()) then
      bif !(x.b == y.b) then sayB false else bif bif false then true else !(x.a.kind == y.a.kind && (x.a.data == y.a.data && true)) then sayB false else
        bif !x.b then sayB true else bif t.b then sayB (bif true then s.toList == t.a.toList else false) else sayB false
    else none else none := by kernel_rfl
theorem bytes_self (s : ByteArray) : (s == s) = true := by rw [beq_toListBytes]; simp
theorem open_wrap {k : Nat} {d : List UInt8} (hk : k ≤ 255) (hd : d.length ≤ 64) : openV (bsL (wrapL k d)) = ⟨⟨k, bsL d⟩, true⟩ := by
  have hl : (bsL (wrapL k d)).data.toList = 165 :: UInt8.ofNat k :: UInt8.ofNat d.length :: (d ++ [UInt8.ofNat (crcF (bodyL k d) 65535 / 256), UInt8.ofNat (crcF (bodyL k d) 65535 % 256)]) := by rw [data_bsL]; rfl
  rw [openV_of hl, if_pos ⟨hd, rfl, rfl, rfl, rfl⟩]
  have := ofNat8 (x := k) (by omega)
  have e : ((UInt8.ofNat k).toNat : Int) = (k : Int) := this
  rw [e]
theorem wrapV_good {k : Nat} {s : ByteArray} (hk : k ≤ 255) (hs : s.size ≤ 64) : wrapV ⟨k, s⟩ = ⟨bsL (wrapL k s.data.toList), true⟩ := by
  unfold wrapV
  dsimp only
  rw [decide_eq_false (by omega), decide_eq_false (by omega), decide_eq_false (by omega)]
  rfl
theorem fgam_ok : GamOk Try.prog (fgam (fun _ => true) (fun p => wrapV p.1) (fun p => wrapV p.1) szOk (fun p => openV p.1) fun p => openV p.1) := .cons okAwake (.cons okWrap (.cons okRefWrap (.cons okOpen (.cons okRefOpen .nil))))
theorem FrameWraps_calls (a0_0 : Int) (a0_1 : ByteArray) (w : World) : Calls Try.prog 4 #[.agg #[.int .i64 a0_0, .string a0_1]] w fun e w' => e = .returned (.bool true) ∧ RowKit.Below w.heap.size w w' := by
  refine calls_of_sum (E := { gam := fgam (fun _ => true) (fun p => wrapV p.1) (fun p => wrapV p.1) szOk (fun p => openV p.1) fun p => openV p.1 }) fgam_ok (d := 20) (f := 4) (vals := [.agg #[.int .i64 a0_0, .string a0_1]]) ((law4 _ _ _ _ _ _ a0_0 a0_1).trans ?_) w
  dsimp only
  by_cases h : 0 ≤ a0_0 ∧ a0_0 ≤ 255 ∧ a0_1.size ≤ 64
  · obtain ⟨k, rfl⟩ : ∃ k : Nat, a0_0 = k := ⟨a0_0.toNat, by omega⟩
    have hl : a0_1.data.toList.length = a0_1.size := rfl
    have hwl : (wrapL k a0_1.data.toList).length ≤ 69 := by unfold wrapL bodyL; simp [hl]; omega
    rw [wrapV_good (by omega) h.2.2]
    dsimp only
    rw [open_wrap (by omega) (by omega), bsL_data, show szOk (bsL (wrapL k a0_1.data.toList), ()) = true from decide_eq_true (by show (bsL _).size ≤ _; rw [size_bsL]; omega)]
    simp [sayB, bytes_self]
  · have hb : wrapV ⟨a0_0, a0_1⟩ = ⟨⟨#[]⟩, false⟩ := by
      unfold wrapV
      dsimp only
      have : (decide (a0_0 < 0) || (decide (a0_0 > 255) || decide ((a0_1.size : Int) > 64))) = true := by
        simp only [Bool.or_eq_true, decide_eq_true_eq]
        omega
      rw [this, cond_true]
    rw [hb]
    dsimp only
    rw [small_open (s := ⟨#[]⟩) (by decide), show szOk (⟨#[]⟩, ()) = true from by decide]
    simp [sayB]
theorem FrameOpens_calls (a0 : ByteArray) (w : World) : Calls Try.prog 5 #[.string a0] w fun e w' => e = .returned (.bool true) ∧ RowKit.Below w.heap.size w w' := by
  refine calls_of_sum (E := { gam := fgam (fun _ => true) (fun p => wrapV p.1) (fun p => wrapV p.1) szOk (fun p => openV p.1) fun p => openV p.1 }) fgam_ok (d := 20) (f := 5) (vals := [.string a0]) ((law5 _ _ _ _ _ _ a0).trans ?_) w
  dsimp only
  by_cases h5 : (a0.size : Int) > 5000
  · rw [decide_eq_true h5]; rfl
  rw [decide_eq_false h5, show szOk (a0, ()) = true from decide_eq_true (by show a0.size ≤ _; omega)]
  by_cases hb : (openV a0).b = true
  · have hform : ∃ (k : Nat) (d : List UInt8), k ≤ 255 ∧ d.length ≤ 64 ∧ a0 = bsL (wrapL k d) ∧ openV a0 = ⟨⟨k, bsL d⟩, true⟩ := by
      unfold openV at hb ⊢
      dsimp only at hb ⊢
      split at hb
      · rename_i g
        rw [if_pos g]
        refine ⟨_, _, ?_, g.2.1, ?_, rfl⟩
        · have := (a0.data.toList.getD 1 0).toNat_lt; omega
        · rw [← g.2.2, bsL_data]
      · cases hb
    obtain ⟨k, d, hk, hd, rfl, ho⟩ := hform
    rw [ho]
    dsimp only
    rw [wrapV_good hk (by rw [size_bsL]; exact hd), data_bsL]
    simp [sayB, bytes_self]
  · have hb := eq_false_of_ne_true hb
    rw [hb]
    simp [sayB, bytes_self]
end Go.Ab
