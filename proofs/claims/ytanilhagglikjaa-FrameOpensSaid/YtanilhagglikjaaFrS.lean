/- A part of the proof of 'FrameOpens': lemmas, no statement of their own; no condition. -/
import Derived.Test.YtanilhagglikjaaFrR
/- frame.Scan: its walk. -/
namespace Go.Ab
open Go Go.Proofs
structure SInv (W0 : World) (S0 l : List UInt8) (fs : List Fr) (o : Nat) (F : Nat → Prop) (wb : World) (a : Option Addr) (n c : Nat) (act : Act) (w : World) : Prop where
  live : Live W0 F wb
  stand : Stand F wb 69 (sS (bsL l) a n c o []) act w
  own : wb.ownsRow W0.heap.size 26 2 (.slice a n c) n (cellsF fs)
  prot : ∀ r, (Value.slice a n c).ownBlock = some r → F r
  len : fs.length = n
  b1 : n + l.length ≤ S0.length
  b2 : o + l.length ≤ S0.length
  eq : scanV S0 = catS fs o (scanV l)
theorem rest_bsL (l : List UInt8) (i : Nat) : (bsL l).extract i (bsL l).size = bsL (l.drop i) := by
  rw [extract_bsL, size_bsL, List.take_of_length_le (by simp)]
theorem take_bsL (l : List UInt8) (i : Nat) : (bsL l).extract 0 i = bsL (l.take i) := by
  rw [extract_bsL, List.drop_zero, Nat.sub_zero]
theorem byteI_bsL (l : List UInt8) : byteI (bsL l) 2 = (l.getD 2 0).toNat := by unfold byteI; rw [data_bsL]; rfl
theorem sr10' {s : ByteArray} {a : Option Addr} {n c : Nat} {o m : Int} (h : ¬ (m > (s.size : Int) ∧ m ≤ 69)) : frRun (scGam idxV szOk fun p => openV p.1) 69 sc10 (sS s a n c o [(8, .int .i64 m)]) [] [0, 2, 3, 4, 5, 6, 8] = some (.normal, sS s a n c o [(8, .int .i64 m)]) := by
  rw [sr10]
  by_cases c8 : m > (s.size : Int)
  · rw [decide_eq_true c8, decide_eq_false (p := m ≤ 69) fun g => h ⟨c8, g⟩]
    simp only [cond_true, cond_false]
  · rw [decide_eq_false c8]
    simp only [cond_false]
noncomputable def restS : Code := .seq sc9 (.seq sc10 (.seq sc12 (.seq sc13 (.cond (.tmp 57) (.region 14 sO14 true) sc15))))
section
variable {W0 : World} {S0 : List UInt8} {Q : Exit → Act → World → Prop}
abbrev GoOn (W0 : World) (S0 : List UInt8) (k : Nat) (Q : Exit → Act → World → Prop) : Prop := ∀ l' fs' o' F' wb' a' n' c' act' w', l'.length < k → SInv W0 S0 l' fs' o' F' wb' a' n' c' act' w' → Q .normal act' w'
abbrev GoRet (W0 : World) (S0 : List UInt8) (Q : Exit → Act → World → Prop) : Prop := ∀ act' w', ScanR W0 (scanV S0) act' w' → Q .ret act' w'
/-- Behind the frame's reading. -/
theorem scan_tail (hS : S0.length ≤ 1099511627776) {l' : List UInt8} {fs : List Fr} {o k : Nat} {F : Nat → Prop} {wb : World} {a : Option Addr} {n c : Nat} {act : Act} {w : World} {m : Nat} {x : Two Fr Bool} (L : Live W0 F wb) (h8 : Stand F wb 69 (sY (bsL l') a n c o (m + 5 : Nat) x) act w)
    (hown : wb.ownsRow W0.heap.size 26 2 (.slice a n c) n (cellsF fs)) (hF : ∀ r, (Value.slice a n c).ownBlock = some r → F r) (hlen : fs.length = n) (hb1 : n + l'.length ≤ S0.length) (hb2 : o + l'.length ≤ S0.length) (hk : l'.length ≤ k) (h3 : 3 ≤ l'.length)
    (hm5 : x.b = true → m + 5 ≤ l'.length) (heq : scanV S0 = catS fs o (if x.b then consS x.a (scanV (l'.drop (m + 5))) else skipS (scanV (l'.drop 1)))) (hN : GoOn W0 S0 k Q) : (Code.cond (.tmp 57) (.region 14 sO14 true) sc15).wp Try.prog Q act w := by
  have hsz' := size_bsL l'
  cases hxb : x.b with
  | true =>
    rw [hxb, if_pos rfl] at heq
    have hm := hm5 hxb
    refine wp_cond_true ((h8.eval (t := 57) rfl).trans (by rw [hxb])) (scan_found (m := (m + 5 : Nat)) L h8 hown hF (by omega) (by omega) (by omega) fun F' wb' a' c' act' w' L' hst' hown' hF' => ?_)
    rw [Int.toNat_natCast, rest_bsL] at hst'
    have hd : (l'.drop (m + 5)).length = l'.length - (m + 5) := List.length_drop ..
    refine hN (l'.drop (m + 5)) (fs ++ [x.a]) o F' wb' a' (n + 1) c' act' w' (by omega) ⟨L', hst', hown', hF', by simp [hlen], by omega, by omega, ?_⟩
    rw [heq]
    unfold catS consS
    simp
  | false =>
    rw [hxb, if_neg (by simp)] at heq
    have hrun := sr15 idxV szOk (fun p => openV p.1) (bsL l') a n c o (m + 5 : Nat) x
    rw [decide_eq_true (p := 0 ≤ (1 : Int) ∧ 1 ≤ ((bsL l').size : Int) ∧ ((bsL l').size : Int) ≤ ((bsL l').size : Int)) (by omega), cond_true, Int.toNat_natCast, show Int.toNat 1 = 1 from rfl, rest_bsL, show IntKind.i64.wrap (((o : Nat) : Int) + 1) = ((o + 1 : Nat) : Int) by rw [wrapM]; omega] at hrun
    refine wp_cond_false ((h8.eval (t := 57) rfl).trans (by rw [hxb])) ((runs_drop scCall _ _ hrun).stand (oS15 ..) h8 fun a9 w9 h9 => ?_)
    have hct := h9.cut (lo := 4096) (hi := frH) (cl14 ..)
    rw [ct14] at hct
    have hd : (l'.drop 1).length = l'.length - 1 := List.length_drop ..
    refine hN (l'.drop 1) fs (o + 1) F wb a n c a9 w9 (by omega) ⟨L, hct, hown, hF, hlen, by omega, by omega, ?_⟩
    rw [heq]
    unfold catS skipS
    simp only [Prod.mk.injEq, true_and]
    omega
/-- From a mark on. -/
theorem scan_mid (hS : S0.length ≤ 1099511627776) {l' : List UInt8} {fs : List Fr} {o k : Nat} {F : Nat → Prop} {wb : World} {a : Option Addr} {n c : Nat} {act : Act} {w : World} (L : Live W0 F wb) (h4 : Stand F wb 69 (sS (bsL l') a n c o []) act w)
    (hown : wb.ownsRow W0.heap.size 26 2 (.slice a n c) n (cellsF fs)) (hF : ∀ r, (Value.slice a n c).ownBlock = some r → F r) (hlen : fs.length = n) (hb1 : n + l'.length ≤ S0.length) (hb2 : o + l'.length ≤ S0.length) (hk : l'.length ≤ k) (c3 : ¬ l'.length < 3)
    (heq2 : scanV S0 = catS fs o (if (l'.getD 2 0).toNat + 5 > l'.length ∧ (l'.getD 2 0).toNat + 5 ≤ 69 then ([], l', 0) else
      if (openV (bsL (l'.take (min ((l'.getD 2 0).toNat + 5) l'.length)))).b then consS (openV (bsL (l'.take (min ((l'.getD 2 0).toNat + 5) l'.length)))).a (scanV (l'.drop ((l'.getD 2 0).toNat + 5))) else skipS (scanV (l'.drop 1)))) (hN : GoOn W0 S0 k Q) (hR : GoRet W0 S0 Q) : restS.wp Try.prog Q act w := by
  have hsz' := size_bsL l'
  have hm0 := (l'.getD 2 0).toNat_lt
  have hthird : (l'.take (min ((l'.getD 2 0).toNat + 5) l'.length)).getD 2 0 = l'.getD 2 0 := by
    rw [List.getD_eq_getElem?_getD, List.getD_eq_getElem?_getD, List.getElem?_take, if_pos (by omega)]
  have h64 : (openV (bsL (l'.take (min ((l'.getD 2 0).toNat + 5) l'.length)))).b = true → (l'.getD 2 0).toNat ≤ 64 := by
    intro g
    have := (open_third g).1
    rwa [hthird] at this
  have hrun := sr9 idxV szOk (fun p => openV p.1) (bsL l') a n c o
  rw [decide_eq_true (p := 0 ≤ (2 : Int) ∧ 2 < ((bsL l').size : Int)) (by omega), cond_true, byteI_bsL] at hrun
  generalize (l'.getD 2 0).toNat = m at hm0 h64 hrun heq2
  rw [show IntKind.i64.wrap (IntKind.i64.wrap (m : Int) + 5) = ((m + 5 : Nat) : Int) by rw [wrapM, wrapM]; omega] at hrun
  refine wp_seq ((runs_drop scCall _ _ hrun).stand (oS8 ..) h4 fun a5 w5 h5 => ?_)
  by_cases c10 : m + 5 > l'.length ∧ m + 5 ≤ 69
  · have hrun := sr10 idxV szOk (fun p => openV p.1) (bsL l') a n c o (m + 5 : Nat)
    rw [decide_eq_true (p := ((m + 5 : Nat) : Int) > ((bsL l').size : Int)) (by omega), cond_true, decide_eq_true (p := ((m + 5 : Nat) : Int) ≤ 69) (by omega)] at hrun
    simp only [cond_true] at hrun
    refine wp_seq ((runs_drop scCall _ _ hrun).stand (oS10 ..) h5 fun a6 w6 h6 => hR a6 w6 ?_)
    have hx : scanV S0 = (fs, l', o) := by rw [heq2, if_pos c10]; simp [catS]
    rw [hx]
    exact scan_ret L h6 hown hF hlen (rS10 ..)
  rw [if_neg c10] at heq2
  refine wp_seq ((runs_drop scCall _ _ (sr10' (m := (m + 5 : Nat)) fun g => c10 (by omega))).stand (oS8 ..) h5 fun a6 w6 h6 => ?_)
  have hrun := sr12 idxV szOk (fun p => openV p.1) (bsL l') a n c o (m + 5 : Nat)
  dsimp only at hrun
  have hq : minI ((m + 5 : Nat) : Int) ((bsL l').size : Int) = ((min (m + 5) l'.length : Nat) : Int) := by unfold minI; split <;> omega
  rw [hq, decide_eq_true (p := 0 ≤ ((0 : Nat) : Int) ∧ ((0 : Nat) : Int) ≤ ((min (m + 5) l'.length : Nat) : Int) ∧ ((min (m + 5) l'.length : Nat) : Int) ≤ ((bsL l').size : Int)) (by omega), cond_true, Int.toNat_natCast, Int.toNat_natCast, take_bsL] at hrun
  have hpre : szOk (bsL (l'.take (min (m + 5) l'.length)), ()) = true := decide_eq_true (by show (bsL _).size ≤ _; rw [size_bsL, List.length_take]; omega)
  rw [hpre, cond_true] at hrun
  refine wp_seq ((runs_drop scCall _ _ hrun).stand (oSX ..) h6 fun a7 w7 h7 => ?_)
  refine wp_seq ((runs_drop scCall _ _ (sr13 idxV szOk (fun p => openV p.1) (bsL l') a n c o (m + 5 : Nat) (openV (bsL (l'.take (min (m + 5) l'.length)))))).stand (oSY ..) h7 fun a8 w8 h8 => ?_)
  exact scan_tail hS L h8 hown hF hlen hb1 hb2 hk (by omega) (fun g => by have := h64 g; omega) heq2 hN
theorem scan_step (hS : S0.length ≤ 1099511627776) {l : List UInt8} {fs : List Fr} {o : Nat} {F : Nat → Prop} {wb : World} {a : Option Addr} {n c : Nat} {act : Act} {w : World} (I : SInv W0 S0 l fs o F wb a n c act w) (hN : GoOn W0 S0 l.length Q) (hR : GoRet W0 S0 Q) : (Code.block 1 sB).wp Try.prog Q act w := by
  obtain ⟨L, hst, hown, hF, hlen, hb1, hb2, heq⟩ := I
  refine wp_block ?_
  rw [sB_is]
  refine wp_seq ((runs_drop scCall _ _ (sr3 idxV szOk (fun p => openV p.1) (bsL l) a n c o)).stand (oS3 ..) hst fun a1 w1 h1 => ?_)
  have hidx : idxV (bsL l, ⟨165⟩, ()) = Lib.indexByte l 165 := by unfold idxV; rw [data_bsL]; rfl
  rw [hidx] at h1
  have hsz := size_bsL l
  rcases index_facts l 165 with ⟨hi, hno⟩ | ⟨i, hi, hil, hi0, hij⟩
  · rw [hi] at h1
    have hrun := sr4 idxV szOk (fun p => openV p.1) (bsL l) a n c o (-1)
    rw [decide_eq_true (p := (-1 : Int) < 0) (by decide), cond_true, show IntKind.i64.wrap ((o : Int) + ((bsL l).size : Int)) = ((o + l.length : Nat) : Int) by rw [size_bsL, wrapM]; omega] at hrun
    refine wp_seq ((runs_drop scCall _ _ hrun).stand (oS4 ..) h1 fun a2 w2 h2 => hR a2 w2 ?_)
    have hx : scanV S0 = (fs, [], o + l.length) := by rw [heq, scan_none hno]; simp [catS]
    rw [hx]
    exact scan_ret (l := []) L h2 hown hF hlen (rS4 ..)
  rw [hi] at h1
  have hrun := sr4 idxV szOk (fun p => openV p.1) (bsL l) a n c o i
  rw [decide_eq_false (p := (i : Int) < 0) (by omega), cond_false] at hrun
  refine wp_seq ((runs_drop scCall _ _ hrun).stand (oS3 ..) h1 fun a2 w2 h2 => ?_)
  have hrun := sr6 idxV szOk (fun p => openV p.1) (bsL l) a n c o i
  rw [decide_eq_true (p := 0 ≤ (i : Int) ∧ (i : Int) ≤ ((bsL l).size : Int) ∧ ((bsL l).size : Int) ≤ ((bsL l).size : Int)) (by omega), cond_true, Int.toNat_natCast, Int.toNat_natCast, rest_bsL, show IntKind.i64.wrap ((o : Int) + (i : Int)) = ((o + i : Nat) : Int) by rw [wrapM]; omega] at hrun
  refine wp_seq ((runs_drop scCall _ _ hrun).stand (oS2 ..) h2 fun a3 w3 h3 => ?_)
  have hll : (l.drop i).length = l.length - i := List.length_drop ..
  have hl0 : (l.drop i).getD 0 0 = 165 := by
    rw [List.getD_eq_getElem?_getD, List.getElem?_drop, Nat.add_zero, ← List.getD_eq_getElem?_getD]
    exact hi0
  have heq2 : scanV S0 = catS fs (o + i) (scanV (l.drop i)) := by
    rw [heq, scan_skip i l (by omega) hij]
    unfold catS addO
    simp only [Prod.mk.injEq, true_and]
    omega
  generalize hl' : l.drop i = l' at h3 hll hl0 heq2
  rw [scan_mark hl0 (by omega)] at heq2
  have hsz' := size_bsL l'
  have hrun := sr7 idxV szOk (fun p => openV p.1) (bsL l') a n c (o + i : Nat)
  by_cases c3 : l'.length < 3
  · rw [decide_eq_true (p := ((bsL l').size : Int) < 3) (by omega), cond_true] at hrun
    refine wp_seq ((runs_drop scCall _ _ hrun).stand (oS7 ..) h3 fun a4 w4 h4 => hR a4 w4 ?_)
    have hx : scanV S0 = (fs, l', o + i) := by rw [heq2, if_pos c3]; simp [catS]
    rw [hx]
    exact scan_ret L h4 hown hF hlen (rS7 ..)
  rw [decide_eq_false (p := ((bsL l').size : Int) < 3) (by omega), cond_false] at hrun
  rw [if_neg c3] at heq2
  refine wp_seq ((runs_drop scCall _ _ hrun).stand (oS2 ..) h3 fun a4 w4 h4 => ?_)
  exact scan_mid (o := o + i) hS L h4 hown hF hlen (by omega) (by omega) (by omega) c3 heq2 hN hR
end
theorem scan_rounds {W0 : World} {S0 : List UInt8} (hS : S0.length ≤ 1099511627776) {Q : Exit → Act → World → Prop} (hR : ∀ act' w', ScanR W0 (scanV S0) act' w' → Q .ret act' w') :
    ∀ (k : Nat) (l : List UInt8) (fs : List Fr) (o : Nat) (F : Nat → Prop) (wb : World) (a : Option Addr) (n c : Nat) (act : Act) (w : World), l.length ≤ k → SInv W0 S0 l fs o F wb a n c act w → Code.rounds Try.prog (.block 1 sB) Q (k + 1) act w := by
  intro k
  induction k with
  | zero =>
    intro l fs o F wb a n c act w hk I
    rw [rounds_succ]
    exact scan_step hS I (fun l' _ _ _ _ _ _ _ _ _ h _ => by omega) fun act' w' h => hR act' w' h
  | succ k ih =>
    intro l fs o F wb a n c act w hk I
    rw [rounds_succ]
    exact scan_step hS I (fun l' fs' o' F' wb' a' n' c' act' w' h I' => ih l' fs' o' F' wb' a' n' c' act' w' (by omega) I') fun act' w' h => hR act' w' h
theorem f16_is : Try.prog.funcs[16]? = some Try.f16 := by kernel_rfl
theorem scan_calls (s : ByteArray) (hS : s.size ≤ 1099511627776) (w : World) : Calls Try.prog 16 #[.string s] w fun e w' => ∃ v, e = .returned v ∧ RowKit.Below w.heap.size w w' ∧ ScanX w (scanV s.data.toList) v w' := by
  refine calls_of_wp f16_is sC_is ?_
  have hst := Stand.start (N := 69) [.string s] w 4096 frH frT (by simp)
  refine wp_seq ((runs_drop scCall _ _ (sr0 idxV szOk (fun p => openV p.1) s)).stand (oS0 ..) hst fun a1 w1 h1 => ?_)
  refine wp_seq ((runs_drop scCall _ _ (sr1 idxV szOk (fun p => openV p.1) s)).stand (oS1 ..) h1 fun a2 w2 h2 => ?_)
  refine wp_seq ((runs_drop scCall _ _ (sr2 idxV szOk (fun p => openV p.1) s)).stand (oS2 ..) h2 fun a3 w3 h3 => ?_)
  have hl : s.data.toList.length = s.size := rfl
  have I : SInv w s.data.toList s.data.toList [] 0 (fun k => k < w.heap.size) w none 0 0 a3 w3 := ⟨Live.start w, by rw [bsL_data]; exact h3, ⟨rfl, .inl ⟨rfl, rfl⟩⟩, fun r hr => by (cases hr), rfl, by omega, by omega, by simp [catS]⟩
  refine wp_block (wp_loop_rounds (s.size + 1) (scan_rounds (W0 := w) (S0 := s.data.toList) (by omega) (fun act' w' h => ?_) s.size s.data.toList [] 0 _ w none 0 0 a3 w3 (by omega) I))
  obtain ⟨v, y1, y2, y3, y4⟩ := h
  exact (bodyPost_ret y1 y2 ⟨v, rfl, y3, y4⟩ : bodyPost Try.prog Try.f16 (fun e w' => ∃ v, e = .returned v ∧ RowKit.Below w.heap.size w w' ∧ ScanX w (scanV s.data.toList) v w') .ret act' w')
end Go.Ab
