/- A part of the proof of 'FrameCut': lemmas, no statement of their own; no condition. -/
import Derived.Test.YtanilhagglikjaaFsH
/- FrameCut: its walk. -/
namespace Go.Ab
open Go Go.Proofs
theorem scan_len3 (l : List UInt8) : (scanV l).1.length + (scanV l).2.1.length + (scanV l).2.2 ≤ l.length := by
  have key : ∀ (n : Nat) (l : List UInt8), l.length ≤ n → (scanF n l).1.length + (scanF n l).2.1.length + (scanF n l).2.2 ≤ l.length := by
    intro n
    induction n with
    | zero => intro l _; simp [scanF]
    | succ n ih =>
      intro l hl
      show (stepS (scanF n) l).1.length + (stepS (scanF n) l).2.1.length + (stepS (scanF n) l).2.2 ≤ l.length
      unfold stepS
      cases l with
      | nil => simp
      | cons b r =>
        have h1 := ih r (by simpa using hl)
        have h2 := ih ((b :: r).drop (((b :: r).getD 2 0).toNat + 5)) (by rw [List.length_drop]; simp only [List.length_cons] at hl ⊢; omega)
        rw [List.length_drop] at h2
        dsimp only
        split
        · split
          · simp
          · split
            · simp only [skipS, List.length_cons]; omega
            · split
              · simp
              · split
                · simp only [consS, List.length_cons] at *; omega
                · simp only [skipS, List.length_cons]; omega
        · simp only [skipS, List.length_cons]; omega
  exact key l.length l (Nat.le_refl _)
theorem cellsF_append (a b : List Fr) : cellsF (a ++ b) = cellsF a ++ cellsF b := by unfold cellsF; rw [List.flatMap_append]
theorem cellsF_one (l : List Fr) : ∀ u ∈ cellsF l, u.oneCell' = true := by
  intro u hu
  unfold cellsF at hu
  obtain ⟨f, _, hf⟩ := List.mem_flatMap.1 hu
  simp only [frCells, List.mem_cons, List.not_mem_nil, or_false] at hf
  rcases hf with rfl | rfl <;> rfl
/-- A list behind another. -/
theorem append_lists {w : World} {base : Nat} {v u : Value} {fa fb : List Fr} (hown : w.ownsRow base 26 2 v fa.length (cellsF fa)) (hu : FrsAt w u fb) (h1 : fa.length + fb.length ≤ 1099511627776) (hb : base ≤ w.heap.size) :
    ∃ v' w', (∀ ty, (Builtin.append_ #[33, 33] ty #[v, u]).run Try.prog w = .ok v' w') ∧ FrsAt w' v' (fa ++ fb) ∧ w.grownBy w' v.ownBlock ∧ (∀ r, v'.ownBlock = some r → v.ownBlock = some r ∨ (w.heap.size ≤ r ∧ r < w'.heap.size)) := by
  obtain ⟨ti, hti, ts, tb, tz⟩ := info26
  rcases hu.lies with ⟨c, rfl, rfl⟩ | ⟨g, c, cur, rfl, h3, h4⟩
  · refine ⟨v, w, fun ty => ?_, ?_, ⟨rfl, rfl, rfl, Nat.le_refl _, fun _ _ _ => rfl⟩, fun r hr => .inl hr⟩
    · rcases hown.2 with ⟨rfl, h0⟩ | ⟨g, cap, cur, rfl, _, _, hnc, _⟩
      · simp [Builtin.append_, run_underlying v33, sizeOf, typeInfo, hti, Builtin.lenOf, Builtin.firstCells]
      · simp [Builtin.append_, run_underlying v33, sizeOf, typeInfo, hti, Builtin.lenOf, Builtin.firstCells, hnc, storeCells]
    · rw [List.append_nil]
      refine ⟨by simp at h1; omega, ?_⟩
      rcases hown.2 with ⟨h2, h0⟩ | ⟨g, cap, cur, e1, _, e3, _, _, _, e5⟩
      · exact .inl ⟨0, h2, List.eq_nil_of_length_eq_zero h0⟩
      · exact .inr ⟨g, cap, cur, e1, e3, by simpa using e5⟩
  · obtain ⟨v', w', hr, own', g', n'⟩ := append_fresh (P := Try.prog) w 33 0 26 ti _ 2 24 v33 hti tz ts tb rfl (by omega) base v fa.length _ hown ⟨g, 0, none⟩ fb.length c (cellsF fb) (cellsF_len fb)
      (fun j u hj => by
        rw [addr_add, Nat.zero_add]
        simp only [World.cell?, h3]
        rw [← h4] at hj
        rw [List.getElem?_take] at hj
        split at hj
        · simpa using hj
        · cases hj) (cellsF_one fb) (by simp only [maxLen]; omega) (by omega) hb
    rw [← cellsF_append] at own'
    refine ⟨v', w', hr, ⟨by rw [List.length_append]; exact h1, ?_⟩, g', fun r hr' => ?_⟩
    · rcases own'.2 with ⟨h2, h0⟩ | ⟨g2, cap, cur2, e1, _, e3, _, _, _, e5⟩
      · have : fa ++ fb = [] := List.eq_nil_of_length_eq_zero (by rw [List.length_append]; exact h0)
        exact .inl ⟨0, h2, this⟩
      · exact .inr ⟨g2, cap, cur2, by rw [List.length_append]; exact e1, e3, by rw [List.length_append]; exact e5⟩
    · rcases n' r hr' with h | h
      · exact .inl h
      · refine .inr ⟨h, ?_⟩
        rcases own'.2 with ⟨h2, h0⟩ | ⟨g2, cap, cur2, e1, _, e3, _⟩
        · rw [h2] at hr'; cases hr'
        · rw [e1] at hr'; cases hr'; exact row_lt e3
/-- From the two lists on. -/
theorem cut_tail {w0 : World} {s : ByteArray} {k : Int} {la ma na : Option Addr} {lc mc nc : Nat} {z : ByteArray} {x a b : Scd} {F : Nat → Prop} {wb : World} {act : Act} {w : World}
    (L : Live w0 F wb) (h : Stand F wb 70 (cS s k (c8L (.slice la x.1.length lc) (.slice ma a.1.length mc) (.slice na b.1.length nc) z z x.2.2 a.2.2 b.2.2)) act w) (hl : FrsAt wb (.slice la x.1.length lc) x.1) (hn : FrsAt wb (.slice na b.1.length nc) b.1)
    (hF : ∀ r, (Value.slice la x.1.length lc).ownBlock = some r → F r) (hF3 : ∀ r, (Value.slice na b.1.length nc).ownBlock = some r → F r) (hF2 : ∀ r, (Value.slice ma a.1.length mc).ownBlock = some r → F r)
    {base : Nat} (hbase : w0.heap.size ≤ base) (hbw : base ≤ wb.heap.size) (hown : wb.ownsRow base 26 2 (.slice ma a.1.length mc) a.1.length (cellsF a.1)) (hne : ∀ r, (Value.slice la x.1.length lc).ownBlock = some r → (Value.slice ma a.1.length mc).ownBlock ≠ some r)
    (hx1 : x.1 = a.1 ++ b.1) (hx2 : x.2.2 = a.2.2 + b.2.2) (hs : x.1.length ≤ 1099511627776) (hs2 : x.2.2 ≤ 1099511627776) :
    (Code.seq (.region 8 cO8 false) .ret).wp Try.prog (bodyPost Try.prog Try.f7 fun e w' => e = .returned (.bool true) ∧ RowKit.Below w0.heap.size w0 w') act w := by
  refine wp_seq (wp_region ?_)
  rw [cn8]
  refine ops_stand (frCall _) (qf := isSum ([] : Gam)) [] _ (cr8 s z z la ma na x.1.length lc a.1.length mc b.1.length nc k x.2.2 a.2.2 b.2.2) (fun _ _ hj => take_at hj) (oc9 ..) h _ fun a1 w1 h1 => ?_
  have hl1 := hl.keep (w' := w1) fun r hr => (h1.keep.frame r (hF r hr)).2
  have hn1 := hn.keep (w' := w1) fun r hr => (h1.keep.frame r (hF3 r hr)).2
  have own1 := owns_keep (w' := w1) hown fun r hr => (h1.keep.frame r (hF2 r hr)).2
  have hlen : a.1.length + b.1.length ≤ 1099511627776 := by rw [← List.length_append, ← hx1]; exact hs
  obtain ⟨v', w2, hr2, hv2, g2, n2⟩ := append_lists own1 hn1 hlen (Nat.le_trans hbw h1.keep.grown)
  refine append_stand cg8a (by omega) (lc9 ..) h1 (v := .slice ma a.1.length mc) (u := .slice na b.1.length nc) (h1.eval (t := 53) rfl) (h1.eval (t := 54) rfl) hr2 g2 hF2 _ fun a2 h2 => ?_
  have L2 := L.grown h1 g2 fun r hr => by
    rcases hown.2 with ⟨e1, _⟩ | ⟨g, c, cur, e1, e2, _⟩
    · rw [e1] at hr; cases hr
    · rw [e1] at hr; cases hr; exact Nat.le_trans hbase e2
  have hl2 := hl1.keep (w' := w2) fun r hr => g2.block r (h1.keep.lt (hF r hr)) fun e => hne r hr e.symm
  rw [hx1] at hl2
  refine move_stand cg8b (by omega) (by rw [List.length_set]; exact lc9 ..) h2 (v := .slice la x.1.length lc) (h2.eval (t := 5) rfl) _ fun a3 h3 => ?_
  rw [hx1] at h3
  have hxe : a3.eval (.tmp 55) = v' := h3.eval (t := 55) rfl
  have hye : a3.eval (.tmp 56) = .slice la (a.1 ++ b.1).length lc := h3.eval (t := 56) rfl
  refine call_world cg8c (by omega) (by rw [List.length_set, List.length_set]; exact lc9 ..) h3 rfl f18_is f18_on (args := #[v', .slice la (a.1 ++ b.1).length lc]) (by simp [cC8, hxe, hye]) (same_calls hv2 hl2) _ fun v a4 w4 hv hb3 h4 => ?_
  subst hv
  have L4 := L2.step h3 hb3.os hb3.tape hb3.output hb3.size fun j hj => hb3.block j (by have := L2.size h3; omega)
  have hrun := cr8c s z z la ma na (a.1 ++ b.1).length lc a.1.length mc b.1.length nc k x.2.2 a.2.2 b.2.2 (w55 := v')
  rw [beq_self_eq_true, cond_true, show IntKind.i64.wrap ((a.2.2 : Int) + (b.2.2 : Int)) = (x.2.2 : Int) by rw [wrapM]; omega, beq_self_eq_true] at hrun
  refine ops_stand (frCall _) (qf := isSum ([] : Gam)) [] _ hrun (fun _ _ hj => drop_at hj) (ocE ..) h4 [] fun a5 w5 h5 => ?_
  obtain ⟨y1, y2, y3⟩ := h5.results (P := Try.prog) (fn := Try.f7) (cRE ..)
  exact wp_ret (bodyPost_ret y1 y2 ⟨rfl, (L4.chain _ y3).below⟩)
end Go.Ab
