/- A part of the proof of 'FrameCut': lemmas, no statement of their own; no condition. -/
import Derived.Test.YtanilhagglikjaaFsI
/- FrameCut: all. -/
namespace Go.Ab
open Go Go.Proofs
theorem take_extract (l : List UInt8) (k : Nat) : (bsL l).extract 0 k = bsL (l.take k) := by rw [extract_bsL, List.drop_zero, Nat.sub_zero]
theorem FrameCut_calls (s : ByteArray) (ck : Int) (w : World) : Calls Try.prog 7 #[.string s, .int .i64 ck] w fun e w' => e = .returned (.bool true) ∧ RowKit.Below w.heap.size w w' := by
  refine calls_of_wp f7_is cC_is ?_
  have hst := Stand.start (N := 70) [.string s, .int .i64 ck] w 4096 frH frT (by simp)
  have L := Live.start w
  refine wp_seq ((runs_drop kCall _ _ (cr0 (fun _ => true) s ck)).stand (oc0 ..) hst fun a1 w1 h1 => ?_)
  have hrun := cr1 (fun _ => true) s ck
  rw [Bool.not_true, cond_false] at hrun
  refine wp_seq ((runs_drop kCall _ _ hrun).stand (oc0 ..) h1 fun a2 w2 h2 => ?_)
  have stop : ∀ a3 w3, Stand (fun k => k < w.heap.size) w 70 (cS s ck [(4, .bool true)]) a3 w3 → bodyPost Try.prog Try.f7 (fun e w' => e = .returned (.bool true) ∧ RowKit.Below w.heap.size w w') .ret a3 w3 := by
    intro a3 w3 h3
    obtain ⟨y1, y2, y3⟩ := h3.results (P := Try.prog) (fn := Try.f7) (cR4 ..)
    exact bodyPost_ret y1 y2 ⟨rfl, (L.chain _ y3).below⟩
  have hrun := cr3 (fun _ => true) s ck
  by_cases c1 : (s.size : Int) > 3000
  · rw [decide_eq_true c1, cond_true] at hrun
    exact wp_seq ((runs_drop kCall _ _ hrun).stand (oc4 ..) h2 fun a3 w3 h3 => stop a3 w3 h3)
  rw [decide_eq_false c1, cond_false] at hrun
  simp only [cond_false] at hrun
  by_cases c2 : ck < 0
  · rw [decide_eq_true c2, cond_true] at hrun
    exact wp_seq ((runs_drop kCall _ _ hrun).stand (oc4 ..) h2 fun a3 w3 h3 => stop a3 w3 h3)
  rw [decide_eq_false c2, cond_false] at hrun
  by_cases c3 : ck > (s.size : Int)
  · rw [decide_eq_true c3, cond_true] at hrun
    exact wp_seq ((runs_drop kCall _ _ hrun).stand (oc4 ..) h2 fun a3 w3 h3 => stop a3 w3 h3)
  rw [decide_eq_false c3, cond_false] at hrun
  refine wp_seq ((runs_drop kCall _ _ hrun).stand (oc0 ..) h2 fun a3 w3 h3 => ?_)
  obtain ⟨k, rfl⟩ : ∃ k : Nat, ck = k := ⟨ck.toNat, by omega⟩
  have hdl : s.data.toList.length = s.size := rfl
  generalize hS : s.data.toList = S at hdl
  have hsS : s = bsL S := by rw [← hS, bsL_data]
  have hcut := scan_cut (S.take k).length (S.take k) (S.drop k) (Nat.le_refl _)
  rw [List.take_append_drop] at hcut
  have hlx := scan_len3 S
  have hla := scan_len3 (S.take k)
  have hlb := scan_len3 ((scanV (S.take k)).2.1 ++ S.drop k)
  have htl : (S.take k).length ≤ S.length := by rw [List.length_take]; omega
  have hdr : (S.drop k).length = S.length - k := List.length_drop ..
  have htk : (S.take k).length = k := by rw [List.length_take]; omega
  rw [List.length_append] at hlb
  generalize hA : scanV (S.take k) = a at hcut hla hlb
  generalize hB : scanV (a.2.1 ++ S.drop k) = b at hcut hlb
  generalize hX : scanV S = x at hcut hlx
  obtain ⟨x1, x2, x3⟩ := x
  simp only [Prod.mk.injEq] at hcut
  obtain ⟨e1, e2, e3⟩ := hcut
  subst e2
  refine wp_seq (wp_region ?_)
  rw [cn5]
  refine ops_stand (frCall _) (qf := isSum ([] : Gam)) [] _ (cr5 s k) (fun _ _ hj => take_at hj) (oc30 ..) h3 _ fun a4 w4 h4 => ?_
  have hxe : a4.eval (.tmp 30) = .string s := h4.eval (t := 30) rfl
  refine call_world cg5 (by omega) (lc30 ..) h4 rfl f16_is f16_on (args := #[.string s]) (by simp [cC5, hxe]) (scan_calls s (by omega) w4) _ fun v a5 w5 hv hb h5 => ?_
  rw [hS, hX] at hv
  obtain ⟨l, rfl, hl, hln, _⟩ := scanX_at hv (by dsimp only at hlx ⊢; omega)
  obtain ⟨la, lc, rfl⟩ := hl.val
  dsimp only at hl hln h5 hlx
  have L5 := L.step h4 hb.os hb.tape hb.output hb.size fun j hj => hb.block j (by have := L.size h4; omega)
  refine ops_stand (frCall _) (qf := isSum ([] : Gam)) [] _ (cr5b s (bsL b.2.1) la x1.length lc k x3) (fun _ _ hj => drop_at hj) (oc6 ..) h5 [] fun a6 w6 h6 => ?_
  refine wp_seq (wp_region ?_)
  rw [cn6]
  have hrun := cr6 s (bsL b.2.1) la x1.length lc k x3
  rw [decide_eq_true (p := 0 ≤ ((0 : Nat) : Int) ∧ ((0 : Nat) : Int) ≤ ((k : Nat) : Int) ∧ ((k : Nat) : Int) ≤ (s.size : Int)) (by omega), cond_true, Int.toNat_natCast, Int.toNat_natCast] at hrun
  have hext : s.extract 0 k = bsL (S.take k) := by rw [hsS, take_extract]
  rw [hext] at hrun
  refine ops_stand (frCall _) (qf := isSum ([] : Gam)) [] _ hrun (fun _ _ hj => take_at hj) (oc38 ..) h6 _ fun a7 w7 h7 => ?_
  have hxe : a7.eval (.tmp 38) = .string (bsL (S.take k)) := h7.eval (t := 38) rfl
  refine call_world cg6 (by omega) (lc38 ..) h7 rfl f16_is f16_on (args := #[.string (bsL (S.take k))]) (by simp [cC6, hxe]) (scan_calls (bsL (S.take k)) (by rw [size_bsL]; omega) w7) _ fun v a8 w8 hv hb2 h8 => ?_
  rw [data_bsL, hA] at hv
  obtain ⟨m, rfl, hm, hmn, hmo⟩ := scanX_at hv (by omega)
  obtain ⟨ma, mc, rfl⟩ := hm.val
  have L8 := L5.step h7 hb2.os hb2.tape hb2.output hb2.size fun j hj => hb2.block j (by have := L5.size h7; omega)
  refine ops_stand (frCall _) (qf := isSum ([] : Gam)) [] _ (cr6b s (bsL b.2.1) (bsL a.2.1) (bsL (S.take k)) la ma x1.length lc a.1.length mc k x3 a.2.2) (fun _ _ hj => drop_at hj) (oc7 ..) h8 [] fun a9 w9 h9 => ?_
  refine wp_seq (wp_region ?_)
  rw [cn7]
  have hrun := cr7 s (bsL b.2.1) (bsL a.2.1) la ma x1.length lc a.1.length mc k x3 a.2.2
  have hrest : s.extract k s.size = bsL (S.drop k) := by
    have := rest_bsL S k
    rw [← hsS] at this
    exact this
  rw [decide_eq_true (p := 0 ≤ ((k : Nat) : Int) ∧ ((k : Nat) : Int) ≤ (s.size : Int) ∧ (s.size : Int) ≤ (s.size : Int)) (by omega), cond_true, Int.toNat_natCast, Int.toNat_natCast, hrest, size_bsL, size_bsL, decide_eq_false (by omega), cond_false, bsL_append] at hrun
  refine ops_stand (frCall _) (qf := isSum ([] : Gam)) [] _ hrun (fun _ _ hj => take_at hj) (oc48 ..) h9 _ fun a10 w10 h10 => ?_
  have hxe : a10.eval (.tmp 48) = .string (bsL (a.2.1 ++ S.drop k)) := h10.eval (t := 48) rfl
  refine call_world cg7 (by omega) (lc48 ..) h10 rfl f16_is f16_on (args := #[.string (bsL (a.2.1 ++ S.drop k))]) (by simp [cC7, hxe]) (scan_calls (bsL (a.2.1 ++ S.drop k)) (by rw [size_bsL, List.length_append]; omega) w10) _ fun v a11 w11 hv hb3 h11 => ?_
  rw [data_bsL, hB] at hv
  obtain ⟨n, rfl, hn, hnn, _⟩ := scanX_at hv (by omega)
  obtain ⟨na, nc, rfl⟩ := hn.val
  have L11 := L8.step h10 hb3.os hb3.tape hb3.output hb3.size fun j hj => hb3.block j (by have := L8.size h10; omega)
  refine ops_stand (frCall _) (qf := isSum ([] : Gam)) [] _ (cr7b s (bsL b.2.1) (bsL a.2.1) (bsL (a.2.1 ++ S.drop k)) (bsL b.2.1) la ma na x1.length lc a.1.length mc b.1.length nc k x3 a.2.2 b.2.2) (fun _ _ hj => drop_at hj) (oc8 ..) h11 [] fun a12 w12 h12 => ?_
  have F5 : ∀ r, (Value.slice la x1.length lc).ownBlock = some r → Wide (fun k => k < w.heap.size) w4 w5 r := fun r hr => .inr (hln r hr)
  have F8 : ∀ r, (Value.slice ma a.1.length mc).ownBlock = some r → Wide (Wide (fun k => k < w.heap.size) w4 w5) w7 w8 r := fun r hr => .inr (hmn r hr)
  have keep8 : ∀ r, Wide (fun k => k < w.heap.size) w4 w5 r → w8.heap[r]? = w5.heap[r]? := fun r hr => by rw [hb2.block r (h7.keep.lt hr), (h7.keep.frame r hr).2]
  have keep11 : ∀ r, Wide (Wide (fun k => k < w.heap.size) w4 w5) w7 w8 r → w11.heap[r]? = w8.heap[r]? := fun r hr => by rw [hb3.block r (h10.keep.lt hr), (h10.keep.frame r hr).2]
  have hw5 : w5.heap.size ≤ w7.heap.size := h7.keep.grown
  refine cut_tail (x := (x1, b.2.1, x3)) (a := a) (b := b) (base := w7.heap.size) L11 h12 (hl.keep fun r hr => ?_) hn (fun r hr => .inl (.inl (F5 r hr))) (fun r hr => .inr (hnn r hr)) (fun r hr => .inl (F8 r hr)) (L5.size h7) ?_ (owns_keep hmo fun r hr => keep11 r (F8 r hr)) (fun r hr h2 => ?_) e1 e3 ?_ ?_
  · rw [keep11 r (.inl (F5 r hr)), keep8 r (F5 r hr)]
  · have := hb2.size; have := h10.keep.grown; have := hb3.size; omega
  · have := (hln r hr).2
    have := (hmn r h2).1
    omega
  · dsimp only; omega
  · dsimp only; omega
end Go.Ab
