/- A part of the proof of 'FrameOpens': lemmas, no statement of their own; no condition. -/
import Derived.Test.YtanilhagglikjaaFrL
import Derived.Laws.Strings
import Derived.Laws.Concat
/- Wrap and Open of both packages, plain. -/
namespace Go.Ab
open Go Go.Proofs
theorem bsL_data (s : ByteArray) : bsL s.data.toList = s := by unfold bsL; rw [Array.toArray_toList]
theorem data_bsL (l : List UInt8) : (bsL l).data.toList = l := by unfold bsL; simp
theorem bsL_append (a b : List UInt8) : bsL a ++ bsL b = bsL (a ++ b) := ByteArray.mk_append_mk a b
theorem bsL_inj {a b : List UInt8} (h : bsL a = bsL b) : a = b := by
  have := congrArg (fun s : ByteArray => s.data.toList) h
  simpa only [data_bsL] using this
theorem extract_bsL (l : List UInt8) (i j : Nat) : (bsL l).extract i j = bsL ((l.drop i).take (j - i)) := by
  have h : ((bsL l).extract i j).data.toList = (l.drop i).take (j - i) := by
    rw [ByteArray.data_extract]
    unfold bsL
    simp
  rw [← h, bsL_data]
theorem push2 (x y : Nat) (hx : x < 256) (hy : y < 256) : List.foldl pushI ByteArray.empty [(x : Int), (y : Int)] = bsL [UInt8.ofNat x, UInt8.ofNat y] := by
  have := push_bsL [UInt8.ofNat x, UInt8.ofNat y]
  rw [List.map_cons, List.map_cons, List.map_nil, ofNat8 hx, ofNat8 hy] at this
  exact this
theorem okRefWrap : SumOk Try.prog 13 (S0w (fun _ => true) fun (p : Fr × Unit) => wrapV p.1) := by
  have hG : GamOk Try.prog [(10, S0w szOk sumN)] := .cons okRef .nil
  refine S0w_of fun a w _ => ?_
  obtain ⟨⟨k, s⟩, _⟩ := a
  refine Calls.mono (calls_of_sum (E := { gam := [(10, S0w szOk sumN)] }) hG (d := 20) (f := 13) (vals := [.agg #[.int .i64 k, .string s]]) (v := Cod.enc (wrapV ⟨k, s⟩)) ((ref13 szOk sumN k s).trans ?_) w) fun e w' h => ⟨_, h.1, h.2, rfl⟩
  unfold wrapV
  dsimp only
  by_cases c1 : k < 0
  · rw [decide_eq_true c1]; rfl
  by_cases c2 : k > 255
  · rw [decide_eq_false c1, decide_eq_true c2]; rfl
  by_cases c3 : (s.size : Int) > 64
  · rw [decide_eq_false c1, decide_eq_false c2, decide_eq_true c3]; rfl
  rw [decide_eq_false c1, decide_eq_false c2, decide_eq_false c3]
  simp only [cond_false, Bool.or_false]
  obtain ⟨n, rfl⟩ : ∃ n : Nat, k = n := ⟨k.toNat, by omega⟩
  have hdl : s.data.toList.length = s.size := rfl
  have hb : List.foldl pushI ByteArray.empty [IntKind.u8.wrap (n : Int), IntKind.u8.wrap (s.size : Int)] ++ s = bsL (bodyL n s.data.toList) := by
    rw [wrap8, wrap8, Nat.mod_eq_of_lt (by omega), Nat.mod_eq_of_lt (by omega), push2 _ _ (by omega) (by omega)]
    have e := bsL_append [UInt8.ofNat n, UInt8.ofNat s.size] s.data.toList
    rw [bsL_data] at e
    rw [e]
    rfl
  have hhs : (List.foldl pushI ByteArray.empty [IntKind.u8.wrap (n : Int), IntKind.u8.wrap (s.size : Int)]).size = 2 := rfl
  rw [hb, hhs]
  have hbl : (bodyL n s.data.toList).length = 2 + s.size := by simp [bodyL, hdl]; omega
  have hcl := crcF_lt (bodyL n s.data.toList) 65535 (by omega)
  have hc : ((sumN (bsL (bodyL n s.data.toList), ())).n : Int) = (crcF (bodyL n s.data.toList) 65535 : Nat) := by unfold sumN; rw [data_bsL]
  have hsz : szOk (bsL (bodyL n s.data.toList), ()) = true := decide_eq_true (by show (bsL _).size ≤ _; rw [size_bsL, hbl]; omega)
  rw [hc, hsz]
  generalize hcr : crcF (bodyL n s.data.toList) 65535 = cr at *
  have e1 : IntKind.u8.wrap (IntKind.u16.wrap ((cr : Int).tdiv 256)) = ((cr / 256 : Nat) : Int) := by
    have : (cr : Int).tdiv 256 = ((cr / 256 : Nat) : Int) := rfl
    rw [this, wrap16, Nat.mod_eq_of_lt (by omega), wrap8, Nat.mod_eq_of_lt (by omega)]
  have e2 : IntKind.u8.wrap ((cr : Int).tmod 256) = ((cr % 256 : Nat) : Int) := by
    have : (cr : Int).tmod 256 = ((cr % 256 : Nat) : Int) := rfl
    rw [this, wrap8, Nat.mod_eq_of_lt (by omega)]
  rw [e1, e2, push2 _ _ (by omega) (by omega)]
  have e165 : (⟨#[165]⟩ : ByteArray) = bsL [165] := rfl
  rw [e165, bsL_append, bsL_append, size_bsL, size_bsL, size_bsL, size_bsL]
  have hw : [165] ++ bodyL n s.data.toList ++ [UInt8.ofNat (cr / 256), UInt8.ofNat (cr % 256)] = wrapL n s.data.toList := by unfold wrapL; rw [hcr]; rfl
  rw [hw, decide_eq_false (by omega), decide_eq_false (by rw [hbl]; simp; omega), decide_eq_false (by simp [hbl]; omega)]
  rfl
/-- What bytes are opened as. -/
def openV (s : ByteArray) : Two Fr Bool :=
  let l := s.data.toList
  let d := (l.drop 3).take (l.length - 5)
  let k := (l.getD 1 0).toNat
  if 5 ≤ l.length ∧ d.length ≤ 64 ∧ l = wrapL k d then ⟨⟨k, bsL d⟩, true⟩ else ⟨⟨0, ⟨#[]⟩⟩, false⟩
theorem shape5 {l : List UInt8} (h : 5 ≤ l.length) : ∃ a k n d p q, l = a :: k :: n :: (d ++ [p, q]) := by
  match l, h with
  | a :: k :: n :: r, h =>
    have hr : 2 ≤ r.length := by simp at h; omega
    refine ⟨a, k, n, r.take (r.length - 2), r.getD (r.length - 2) 0, r.getD (r.length - 1) 0, ?_⟩
    congr 3
    have e : r = r.take (r.length - 2) ++ r.drop (r.length - 2) := (List.take_append_drop ..).symm
    have e2 : r.drop (r.length - 2) = [r.getD (r.length - 2) 0, r.getD (r.length - 1) 0] := by
      rw [List.drop_eq_getElem_cons (by omega), List.drop_eq_getElem_cons (by omega), List.drop_eq_nil_of_le (by omega)]
      rw [List.getD_eq_getElem?_getD, List.getD_eq_getElem?_getD, List.getElem?_eq_getElem (by omega), List.getElem?_eq_getElem (by omega)]
      have : r.length - 2 + 1 = r.length - 1 := by omega
      simp only [this, Option.getD_some]
    rw [← e2]
    exact e
theorem u8_eq {a : UInt8} {n : Nat} (hn : n < 256) : a = UInt8.ofNat n ↔ a.toNat = n := by
  constructor
  · intro h
    have := ofNat8 hn
    rw [h]
    omega
  · intro h
    apply UInt8.toNat_inj.1
    have := ofNat8 hn
    omega
section
variable {s : ByteArray} {a k n p q : UInt8} {d : List UInt8} (hl : s.data.toList = a :: k :: n :: (d ++ [p, q]))
include hl
theorem openV_of : openV s = if d.length ≤ 64 ∧ a = 165 ∧ n = UInt8.ofNat d.length ∧ p = UInt8.ofNat (crcF (k :: n :: d) 65535 / 256) ∧ q = UInt8.ofNat (crcF (k :: n :: d) 65535 % 256) then ⟨⟨k.toNat, bsL d⟩, true⟩ else ⟨⟨0, ⟨#[]⟩⟩, false⟩ := by
  unfold openV
  dsimp only
  rw [hl]
  have e1 : ((a :: k :: n :: (d ++ [p, q])).drop 3).take ((a :: k :: n :: (d ++ [p, q])).length - 5) = d := by
    have : (a :: k :: n :: (d ++ [p, q])).length - 5 = d.length := by simp
    rw [this]
    simp
  have e2 : (a :: k :: n :: (d ++ [p, q])).getD 1 0 = k := rfl
  rw [e1, e2]
  have hk : UInt8.ofNat k.toNat = k := UInt8.ofNat_toNat
  have key : (5 ≤ (a :: k :: n :: (d ++ [p, q])).length ∧ d.length ≤ 64 ∧ a :: k :: n :: (d ++ [p, q]) = wrapL k.toNat d) ↔
      (d.length ≤ 64 ∧ a = 165 ∧ n = UInt8.ofNat d.length ∧ p = UInt8.ofNat (crcF (k :: n :: d) 65535 / 256) ∧ q = UInt8.ofNat (crcF (k :: n :: d) 65535 % 256)) := by
    unfold wrapL bodyL
    rw [hk]
    constructor
    · rintro ⟨_, h2, h3⟩
      simp only [List.cons_append, List.cons.injEq, true_and] at h3
      obtain ⟨h4, h5, h6⟩ := h3
      rw [← h5] at h6
      have := List.append_cancel_left h6
      simp only [List.cons.injEq, and_true] at this
      exact ⟨h2, h4, h5, this⟩
    · rintro ⟨h2, h4, h5, h6, h7⟩
      refine ⟨by simp, h2, ?_⟩
      rw [← h5, ← h6, ← h7, h4]
      rfl
  by_cases h : d.length ≤ 64 ∧ a = 165 ∧ n = UInt8.ofNat d.length ∧ p = UInt8.ofNat (crcF (k :: n :: d) 65535 / 256) ∧ q = UInt8.ofNat (crcF (k :: n :: d) 65535 % 256)
  · rw [if_pos h, if_pos (key.2 h)]
  · rw [if_neg h, if_neg fun g => h (key.1 g)]
theorem size_of : s.size = d.length + 5 := by
  have h : s.data.toList.length = s.size := rfl
  rw [← h, hl]
  simp
theorem byte0 : byteI s 0 = a.toNat := by unfold byteI; rw [hl]; rfl
theorem byte1 : byteI s 1 = k.toNat := by unfold byteI; rw [hl]; rfl
theorem byte2 : byteI s 2 = n.toNat := by unfold byteI; rw [hl]; rfl
theorem byteP {i : Int} (hi : i = d.length + 3) : byteI s i = p.toNat := by
  have : i.toNat = d.length + 3 := by omega
  unfold byteI
  rw [hl, this]
  simp [List.getD_eq_getElem?_getD]
theorem byteQ {i : Int} (hi : i = d.length + 4) : byteI s i = q.toNat := by
  have : i.toNat = d.length + 4 := by omega
  unfold byteI
  rw [hl, this]
  simp [List.getD_eq_getElem?_getD]
theorem cut1 {m : Nat} (hm : m = d.length + 3) : s.extract 1 m = bsL (k :: n :: d) := by
  rw [← bsL_data s, extract_bsL, hl]
  have : m - 1 = d.length + 2 := by omega
  rw [this]
  simp
theorem cut3 {m : Nat} (hm : m = d.length + 3) : s.extract 3 m = bsL d := by
  rw [← bsL_data s, extract_bsL, hl]
  have : m - 3 = d.length := by omega
  rw [this]
  simp
end
theorem orW_eq {p q : Nat} (hp : p < 256) (hq : q < 256) : orW (IntKind.u16.wrap (IntKind.u16.wrap (p : Int) * 2 ^ min (Int.toNat 8) IntKind.u16.bits)) (IntKind.u16.wrap (q : Int)) = ((p * 256 + q : Nat) : Int) := by
  have e8 : min (Int.toNat 8) IntKind.u16.bits = 8 := rfl
  rw [e8, wrap16, Nat.mod_eq_of_lt (by omega), shl8, wrap16, Nat.mod_eq_of_lt (by omega), Nat.mod_eq_of_lt (by omega)]
  have h : (BitVec.ofInt IntKind.u16.bits ((p * 256 : Nat) : Int) ||| BitVec.ofInt IntKind.u16.bits (q : Int)).toNat = p * 256 + q := by
    show (BitVec.ofInt 16 ((p * 256 : Nat) : Int) ||| BitVec.ofInt 16 (q : Int)).toNat = _
    rw [BitVec.ofInt_natCast, BitVec.ofInt_natCast, BitVec.toNat_or, BitVec.toNat_ofNat, BitVec.toNat_ofNat, Nat.mod_eq_of_lt (by omega), Nat.mod_eq_of_lt (by omega)]
    have := Nat.two_pow_add_eq_or_of_lt (i := 8) (b := q) (by omega) p
    rw [show 2 ^ 8 * p = p * 256 by omega] at this
    rw [this]
  unfold orW
  rw [h, wrap16, Nat.mod_eq_of_lt (by omega)]
theorem small_open {s : ByteArray} (h : s.size < 5) : openV s = ⟨⟨0, ⟨#[]⟩⟩, false⟩ := by
  unfold openV
  dsimp only
  have hl : s.data.toList.length = s.size := rfl
  rw [if_neg fun g => by omega]
theorem okOpen : SumOk Try.prog 14 (S0w szOk fun (p : ByteArray × Unit) => openV p.1) := by
  have hG : GamOk Try.prog [(9, S0w szOk sumN)] := .cons okSum .nil
  refine S0w_of fun a w hp => ?_
  obtain ⟨s, _⟩ := a
  have hsz : s.size ≤ 4611686018427387904 := of_decide_eq_true hp
  refine Calls.mono (calls_of_sum (E := { gam := [(9, S0w szOk sumN)] }) hG (d := 20) (f := 14) (vals := [.string s]) (v := Cod.enc (openV s)) ((open14 szOk sumN s).trans ?_) w) fun e w' h => ⟨_, h.1, h.2, rfl⟩
  dsimp only
  by_cases h5 : (s.size : Int) < 5
  · rw [decide_eq_true h5, small_open (by omega)]; rfl
  rw [decide_eq_false h5, cond_false]
  obtain ⟨a, k, n, d, p, q, hl⟩ := shape5 (l := s.data.toList) (by have hl : s.data.toList.length = s.size := rfl; omega)
  have hs := size_of hl
  have ha := a.toNat_lt
  have hk := k.toNat_lt
  have hn := n.toNat_lt
  have hpp := p.toNat_lt
  have hq := q.toNat_lt
  have hcl := crcF_lt (k :: n :: d) 65535 (by omega)
  have w2 : IntKind.i64.wrap ((s.size : Int) - 2) = ((d.length + 3 : Nat) : Int) := by rw [wrapM]; omega
  have w5 : IntKind.i64.wrap ((s.size : Int) - 5) = (d.length : Int) := by rw [wrapM]; omega
  have w3 : IntKind.i64.wrap (((d.length + 3 : Nat) : Int) + 1) = ((d.length + 4 : Nat) : Int) := by rw [wrapM]; omega
  have wn : IntKind.i64.wrap (n.toNat : Int) = (n.toNat : Int) := by rw [wrapM]; omega
  have wk : IntKind.i64.wrap (k.toNat : Int) = (k.toNat : Int) := by rw [wrapM]; omega
  have cut1' : s.extract (Int.toNat 1) (((d.length + 3 : Nat) : Int)).toNat = bsL (k :: n :: d) := cut1 hl (by omega)
  have cut3' : s.extract (Int.toNat 3) (((d.length + 3 : Nat) : Int)).toNat = bsL d := cut3 hl (by omega)
  have hsum : ((sumN (bsL (k :: n :: d), ())).n : Int) = (crcF (k :: n :: d) 65535 : Nat) := by unfold sumN; rw [data_bsL]
  rw [openV_of hl, w2, w3, w5, byte0 hl, byte1 hl, byte2 hl, wn, wk, byteP hl (by omega), byteQ hl (by omega), orW_eq hpp hq, cut1', cut3', hsum]
  have hpre : szOk (bsL (k :: n :: d), ()) = true := decide_eq_true (by show (bsL _).size ≤ _; rw [size_bsL]; simp; omega)
  rw [hpre, decide_eq_true (p := 0 ≤ (0 : Int) ∧ 0 < (s.size : Int)) (by omega), decide_eq_true (p := 0 ≤ (2 : Int) ∧ 2 < (s.size : Int)) (by omega), decide_eq_true (p := 0 ≤ (1 : Int) ∧ 1 ≤ ((d.length + 3 : Nat) : Int) ∧ ((d.length + 3 : Nat) : Int) ≤ (s.size : Int)) (by omega),
    decide_eq_true (p := 0 ≤ ((d.length + 3 : Nat) : Int) ∧ ((d.length + 3 : Nat) : Int) < (s.size : Int)) (by omega), decide_eq_true (p := 0 ≤ ((d.length + 4 : Nat) : Int) ∧ ((d.length + 4 : Nat) : Int) < (s.size : Int)) (by omega), decide_eq_true (p := 0 ≤ (1 : Int) ∧ 1 < (s.size : Int)) (by omega),
    decide_eq_true (p := 0 ≤ (3 : Int) ∧ 3 ≤ ((d.length + 3 : Nat) : Int) ∧ ((d.length + 3 : Nat) : Int) ≤ (s.size : Int)) (by omega)]
  simp only [cond_true, cond_false]
  by_cases c1 : a = 165
  · have b1 : ((a.toNat : Int) != 165) = false := by rw [c1]; rfl
    rw [b1, cond_false]
    by_cases c2 : (n.toNat : Int) = (d.length : Int)
    · have b2 : ((n.toNat : Int) != (d.length : Int)) = false := by rw [c2]; simp
      rw [b2, cond_false]
      by_cases c3 : (d.length : Int) > 64
      · rw [decide_eq_true c3, if_neg fun g => by omega]; rfl
      · rw [decide_eq_false c3, cond_false]
        by_cases c4 : crcF (k :: n :: d) 65535 = p.toNat * 256 + q.toNat
        · have b4 : (((crcF (k :: n :: d) 65535 : Nat) : Int) != ((p.toNat * 256 + q.toNat : Nat) : Int)) = false := by rw [c4]; simp
          rw [b4, cond_false, if_pos ⟨by omega, c1, (u8_eq (by omega)).2 (by omega), (u8_eq (by omega)).2 (by omega), (u8_eq (by omega)).2 (by omega)⟩]
          rfl
        · have b4 : (((crcF (k :: n :: d) 65535 : Nat) : Int) != ((p.toNat * 256 + q.toNat : Nat) : Int)) = true := bne_iff_ne.2 (by omega)
          rw [b4, if_neg fun g => by
            have g1 := (u8_eq (a := p) (by omega)).1 g.2.2.2.1
            have g2 := (u8_eq (a := q) (by omega)).1 g.2.2.2.2
            omega]
          rfl
    · have b2 : ((n.toNat : Int) != (d.length : Int)) = true := bne_iff_ne.2 c2
      rw [b2, if_neg fun g => by
        have g1 := (u8_eq (a := n) (by omega)).1 g.2.2.1
        omega]
      rfl
  · have b1 : ((a.toNat : Int) != 165) = true := bne_iff_ne.2 fun e => c1 ((u8_eq (n := 165) (by omega)).2 (by omega))
    rw [b1, if_neg fun g => c1 g.2.1]
    rfl
theorem open15 (pre : Fr × Unit → Bool) (g : Fr × Unit → Two ByteArray Bool) (s : ByteArray) : fnSum Try.prog { gam := [(13, S0w pre g)] } [] 20 15 [.val (.string s)] [] =
    let L : Int := s.size
    let m := IntKind.i64.wrap (L - 2)
    let x : Fr := ⟨IntKind.i64.wrap (byteI s 1), s.extract (Int.toNat 3) m.toNat⟩
    bif decide (L < 5) then noF else bif decide (0 ≤ (1 : Int) ∧ 1 < L) then bif decide (0 ≤ (3 : Int) ∧ 3 ≤ m ∧ m ≤ L) then bif pre (x, ()) then
      bif !(g (x, ())).b then noF else bif bif false then true else !((g (x, ())).a.toList == s.toList) then noF else some (.val (.tuple #[.agg #[.int .i64 x.kind, .string x.data], .bool true]), [])
    else none else none else none := by kernel_rfl
theorem okRefOpen : SumOk Try.prog 15 (S0w szOk fun (p : ByteArray × Unit) => openV p.1) := by
  have hG : GamOk Try.prog [(13, S0w (fun _ => true) fun (p : Fr × Unit) => wrapV p.1)] := .cons okRefWrap .nil
  refine S0w_of fun a w hp => ?_
  obtain ⟨s, _⟩ := a
  have hsz : s.size ≤ 4611686018427387904 := of_decide_eq_true hp
  refine Calls.mono (calls_of_sum (E := { gam := [(13, S0w (fun _ => true) fun (p : Fr × Unit) => wrapV p.1)] }) hG (d := 20) (f := 15) (vals := [.string s]) (v := Cod.enc (openV s)) ((open15 (fun _ => true) (fun p => wrapV p.1) s).trans ?_) w) fun e w' h => ⟨_, h.1, h.2, rfl⟩
  dsimp only
  by_cases h5 : (s.size : Int) < 5
  · rw [decide_eq_true h5, small_open (by omega)]; rfl
  rw [decide_eq_false h5, cond_false]
  obtain ⟨a, k, n, d, p, q, hl⟩ := shape5 (l := s.data.toList) (by have hl : s.data.toList.length = s.size := rfl; omega)
  have hs := size_of hl
  have hk := k.toNat_lt
  have w2 : IntKind.i64.wrap ((s.size : Int) - 2) = ((d.length + 3 : Nat) : Int) := by rw [wrapM]; omega
  have wk : IntKind.i64.wrap (k.toNat : Int) = (k.toNat : Int) := by rw [wrapM]; omega
  have cut3' : s.extract (Int.toNat 3) (((d.length + 3 : Nat) : Int)).toNat = bsL d := cut3 hl (by omega)
  rw [w2, byte1 hl, wk, cut3', decide_eq_true (p := 0 ≤ (1 : Int) ∧ 1 < (s.size : Int)) (by omega), decide_eq_true (p := 0 ≤ (3 : Int) ∧ 3 ≤ ((d.length + 3 : Nat) : Int) ∧ ((d.length + 3 : Nat) : Int) ≤ (s.size : Int)) (by omega)]
  simp only [cond_true, cond_false]
  have hd64 : (bsL d).size = d.length := size_bsL d
  have hop : openV s = if d.length ≤ 64 ∧ s = bsL (wrapL k.toNat d) then ⟨⟨k.toNat, bsL d⟩, true⟩ else ⟨⟨0, ⟨#[]⟩⟩, false⟩ := by
    unfold openV
    dsimp only
    have e1 : (s.data.toList.drop 3).take (s.data.toList.length - 5) = d := by
      have : (s.data.toList).length - 5 = d.length := by rw [hl]; simp
      rw [this, hl]
      simp
    have e2 : s.data.toList.getD 1 0 = k := by rw [hl]; rfl
    have e3 : 5 ≤ s.data.toList.length := by rw [hl]; simp
    have e4 : s.data.toList = wrapL k.toNat d ↔ s = bsL (wrapL k.toNat d) := by
      constructor
      · intro h; rw [← h, bsL_data]
      · intro h; rw [h, data_bsL]
    rw [e1, e2]
    by_cases h : d.length ≤ 64 ∧ s = bsL (wrapL k.toNat d)
    · rw [if_pos h, if_pos ⟨e3, h.1, e4.2 h.2⟩]
    · rw [if_neg h, if_neg fun g => h ⟨g.2.1, e4.1 g.2.2⟩]
  rw [hop]
  by_cases c3 : (d.length : Int) > 64
  · have hw : wrapV ⟨(k.toNat : Int), bsL d⟩ = ⟨⟨#[]⟩, false⟩ := by
      unfold wrapV
      dsimp only
      rw [hd64, decide_eq_true c3, Bool.or_true, Bool.or_true]
      rfl
    rw [hw, if_neg fun g => by omega]
    rfl
  · have hw : wrapV ⟨(k.toNat : Int), bsL d⟩ = ⟨bsL (wrapL k.toNat d), true⟩ := by
      unfold wrapV
      dsimp only
      rw [hd64, decide_eq_false c3, decide_eq_false (by omega), decide_eq_false (by omega), data_bsL]
      rfl
    rw [hw]
    simp only [Bool.not_true, cond_false]
    have hbeq : ((bsL (wrapL k.toNat d)).toList == s.toList) = decide (s = bsL (wrapL k.toNat d)) := by
      rw [ByteArray.toList_eq, ByteArray.toList_eq, data_bsL]
      by_cases h : s = bsL (wrapL k.toNat d)
      · rw [decide_eq_true h, h, data_bsL]; simp
      · rw [decide_eq_false h]
        apply beq_eq_false_iff_ne.2
        intro g
        exact h (by rw [g, bsL_data])
    rw [hbeq]
    by_cases h : s = bsL (wrapL k.toNat d)
    · rw [decide_eq_true h, if_pos ⟨by omega, h⟩]; rfl
    · rw [decide_eq_false h, if_neg fun g => h g.2]; rfl
end Go.Ab
