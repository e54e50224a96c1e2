/- A part of the proof of 'FrameOpens': lemmas, no statement of their own; no condition. -/
import Derived.Test.YtanilhagglikjaaAbTwo
/- Regions whose order is asked, over any relation of what is known to the frame and the world. -/
namespace Go.Ab
open Go
def ChainR (Ex : It → Prop) : List It → U → U → Prop
  | [], u, u' => u' = u
  | it :: r, u, u' => (∀ x ∈ it.rd, u x.1 = some x.2) ∧ Ex it ∧ ChainR Ex r (upd u it.wr) u'
/-- What an item does, of all that is known so. -/
def ExR (P : Program) (ops : Array Oper) (R : U → Act → World → Prop) (Q : Exit → Act → World → Prop) (it : It) : Prop :=
  ∀ (u : U) (a : Act) (w : World), R u a w → (∀ x ∈ it.rd, u x.1 = some x.2) → ∀ K : Act → World → Prop, (∀ a' w', R (upd u it.wr) a' w' → K a' w') → wpOp P ops Q it.i K a w
section
variable {Ex : It → Prop}
/-- What is laid over, apart from all that a chain touches, may be laid first. -/
theorem ChainR.over {wr : Wr} : ∀ {items : List It} {u u' : U}, ChainR Ex items u u' → (∀ it ∈ items, (∀ p ∈ wr, ∀ q ∈ it.rd, q.1 ≠ p.1) ∧ (∀ p ∈ wr, ∀ q ∈ it.wr, q.1 ≠ p.1)) →
    ChainR Ex items (upd u wr) (upd u' wr)
  | [], u, u', h, _ => by simp only [ChainR] at h ⊢; rw [h]
  | it :: r, u, u', h, hd => by
    obtain ⟨h1, h2, h3⟩ := h
    have hd0 := hd it (List.mem_cons_self ..)
    refine ⟨fun x hx => ?_, h2, ?_⟩
    · rw [upd_none _ _ _ fun p hp e => hd0.1 p hp x hx e.symm]
      exact h1 x hx
    · rw [upd_comm u wr it.wr fun p hp q hq e => hd0.2 p hp q hq e.symm]
      exact ChainR.over h3 fun x hx => hd x (List.mem_cons_of_mem _ hx)

theorem ChainR.append : ∀ {a b : List It} {u v w : U}, ChainR Ex a u v → ChainR Ex b v w → ChainR Ex (a ++ b) u w
  | [], _, _, _, _, h, k => by simp only [ChainR] at h; subst h; exact k
  | _ :: _, _, _, _, _, h, k => ⟨h.1, h.2.1, ChainR.append h.2.2 k⟩
theorem ChainR.split : ∀ {a b : List It} {u w : U}, ChainR Ex (a ++ b) u w → ∃ v, ChainR Ex a u v ∧ ChainR Ex b v w
  | [], _, u, _, h => ⟨u, rfl, h⟩
  | _ :: _, _, _, _, h => by
    obtain ⟨v, h1, h2⟩ := ChainR.split h.2.2
    exact ⟨v, ⟨h.1, h.2.1, h1⟩, h2⟩

/-- What a chain doesn't write stays. -/
theorem ChainR.stays : ∀ {items : List It} {u u' : U} {l : Loc}, ChainR Ex items u u' → (∀ it ∈ items, ∀ p ∈ it.wr, p.1 ≠ l) → u' l = u l
  | [], u, u', l, h, _ => by simp only [ChainR] at h; rw [h]
  | it :: r, u, u', l, h, hd => by
    rw [ChainR.stays h.2.2 fun x hx => hd x (List.mem_cons_of_mem _ hx), upd_none _ _ _ (hd it (List.mem_cons_self ..))]

/-- The item in the midst, apart from all ahead of it, comes first. -/
theorem ChainR.first {pre post : List It} {it : It} {u u' : U} (h : ChainR Ex (pre ++ it :: post) u u') (hi : ∀ p ∈ pre, Indep p it) : ChainR Ex (it :: (pre ++ post)) u u' := by
  obtain ⟨v, h1, h2, h3, h4⟩ := ChainR.split h
  refine ⟨fun x hx => ?_, h3, ?_⟩
  · rw [← ChainR.stays h1 fun p hp q hq => (hi p hp).1 q hq x hx]
    exact h2 x hx
  · refine ChainR.append (ChainR.over h1 fun p hp => ⟨fun q hq r hr => (hi p hp).2.2 r hr q hq, fun q hq r hr => (hi p hp).2.1 r hr q hq⟩) h4

end
section
variable {P : Program} {ops : Array Oper} {R : U → Act → World → Prop} {Q : Exit → Act → World → Prop}
/-- Whatever order the edges allow. 'Ready' tells of each item that may come up that those ahead of it are apart from it. -/
theorem chainR_any : ∀ (n : Nat) (items : List It) (listed : Array Bool) (u u' : U) (a : Act) (w : World), items.length = n → ChainR (ExR P ops R Q) items u u' → R u a w →
    listed.size = ops.size → (∀ j, j < ops.size → (listed.getD j true = false ↔ ∃ it ∈ items, it.i = j)) → (∀ it ∈ items, it.i < ops.size) → (items.map (·.i)).Nodup →
    Closed ops listed → (∀ (pre post : List It) (it : It) (ls : Array Bool), Closed ops ls → (pre ++ it :: post).Sublist items →
      it.i ∈ Region.ready .any ops ls → (∀ p ∈ pre, ls.getD p.i true = false) → ∀ p ∈ pre, Indep p it) →
    (∀ (ls : Array Bool) (l : List It), ls.size = ops.size → l.Sublist items → l ≠ [] → (∀ j, j < ops.size → (ls.getD j true = false ↔ ∃ it ∈ l, it.i = j)) → Region.ready .any ops ls ≠ []) →
    (∀ a' w', R u' a' w' → Q .normal a' w') → wpAny P .any ops Q n listed a w
  | 0, items, listed, u, u', a, w, hl, hc, hf, hls, hli, _, _, _, _, _, hQ => by
    have : items = [] := List.eq_nil_of_length_eq_zero hl
    subst this
    simp only [ChainR] at hc
    subst hc
    refine ⟨?_, hQ a w hf⟩
    cases hr : Region.ready .any ops listed with
    | nil => rfl
    | cons x xs =>
      have hx : x ∈ Region.ready .any ops listed := by rw [hr]; simp
      obtain ⟨h1, o, h2, _⟩ := mem_ready.1 hx
      have hlt : x < ops.size := (Array.getElem?_eq_some_iff.1 h2).1
      obtain ⟨it, h3, _⟩ := (hli x hlt).1 h1
      cases h3
  | n + 1, items, listed, u, u', a, w, hl, hc, hf, hls, hli, hlt, hnd, hcl, hind, hne, hQ => by
    refine ⟨fun h0 => absurd h0 (hne listed items hls (List.Sublist.refl _) (by intro e; subst e; cases hl) hli), fun j hj => ?_⟩
    obtain ⟨h1, o, h2, _⟩ := mem_ready.1 hj
    have hjlt : j < ops.size := (Array.getElem?_eq_some_iff.1 h2).1
    obtain ⟨it, hit, rfl⟩ := (hli j hjlt).1 h1
    obtain ⟨pre, post, rfl⟩ := List.append_of_mem hit
    have hpre : ∀ p ∈ pre, listed.getD p.i true = false := fun p hpp => (hli p.i (hlt p (by simp [hpp]))).2 ⟨p, by simp [hpp], rfl⟩
    have hc' := ChainR.first hc (hind pre post it listed hcl (List.Sublist.refl _) hj hpre)
    obtain ⟨c1, c2, c3⟩ := hc'
    have hsub : (pre ++ post).Sublist (pre ++ it :: post) := List.Sublist.append (List.Sublist.refl _) (List.sublist_cons_self ..)
    have hsubm : ∀ p ∈ pre ++ post, p ∈ pre ++ it :: post := fun p hpp => hsub.subset hpp
    have hnotin : ∀ p ∈ pre ++ post, p.i ≠ it.i := by
      intro p hpp e
      simp only [List.map_append, List.map_cons] at hnd
      rw [List.nodup_append] at hnd
      rcases List.mem_append.1 hpp with h | h
      · exact hnd.2.2 p.i (List.mem_map.2 ⟨p, h, rfl⟩) it.i (by simp) e
      · exact (List.nodup_cons.1 hnd.2.1).1 (e ▸ List.mem_map.2 ⟨p, h, rfl⟩)
    have hset : ∀ k, k < ops.size → ((listed.setIfInBounds it.i true).getD k true = false ↔ ∃ x ∈ pre ++ post, x.i = k) := by
      intro k hk
      by_cases e : k = it.i
      · subst e
        have : (listed.setIfInBounds it.i true).getD it.i true = true := by simp [hls, hjlt]
        rw [this]
        constructor
        · intro h; cases h
        · rintro ⟨x, hx, e⟩; exact absurd e (hnotin x hx)
      · rw [getD_set_ne true (Ne.symm e), hli k hk]
        constructor
        · rintro ⟨x, hx, rfl⟩
          refine ⟨x, ?_, rfl⟩
          simp only [List.mem_append, List.mem_cons] at hx ⊢
          rcases hx with h | rfl | h
          · exact .inl h
          · exact absurd rfl e
          · exact .inr h
        · rintro ⟨x, hx, rfl⟩; exact ⟨x, hsubm x hx, rfl⟩
    refine c2 u a w hf c1 _ fun a' w' hf' => ?_
    refine chainR_any n (pre ++ post) (listed.setIfInBounds it.i true) _ u' a' w' ?_ c3 hf' (by simpa using hls) hset (fun x hx => hlt x (hsubm x hx))
      (hnd.sublist (hsub.map _)) (hcl.set hj) (fun pre' post' it' ls h0 h4 => hind pre' post' it' ls h0 (h4.trans hsub))
      (fun ls l h0 h1 => hne ls l h0 (h1.trans hsub)) hQ
    simp only [List.length_append, List.length_cons] at hl ⊢; omega
theorem wpAny_of_chainR {items : List It} (hlen : items.length = ops.size) (hix : ∀ (k : Nat) (it : It), items[k]? = some it → it.i = k) (hok : anyOk ops.toList (items.map It.foot) = true) {u u' : U} {a : Act} {w : World}
    (hc : ChainR (ExR P ops R Q) items u u') (hf : R u a w)
    (hQ : ∀ a' w', R u' a' w' → Q .normal a' w') : wpAny P .any ops Q ops.size (Array.replicate ops.size false) a w := by
  simp only [anyOk, Bool.and_eq_true] at hok
  obtain ⟨hed, hchk⟩ := hok
  have hB : BefOk ops.toList (befs ops.toList []) := by
    have := befs_ok ops.toList [] [] ⟨rfl, fun j o m h => by simp at h⟩
    simpa using this
  have hspec := (chk_spec _ _ 0 [] hchk).2
  have hinc : items.Pairwise fun a b => a.i < b.i := by
    rw [List.pairwise_iff_getElem]
    intro p q hp1 hq1 hpq
    rw [hix p _ (List.getElem?_eq_getElem hp1), hix q _ (List.getElem?_eq_getElem hq1)]
    exact hpq
  have hmem : ∀ it ∈ items, items[it.i]? = some it ∧ it.i < ops.size := by
    intro it hit
    obtain ⟨k, hk, e⟩ := List.getElem_of_mem hit
    have h1 : items[k]? = some it := by rw [List.getElem?_eq_getElem hk, e]
    have := hix k it h1
    rw [this]
    exact ⟨h1, by omega⟩
  refine chainR_any ops.size items (Array.replicate ops.size false) u u' a w hlen hc hf (by simp) (fun j hj => ?_) (fun it hit => (hmem it hit).2) ?_ ?_ ?_ ?_ hQ
  · have h1 : (Array.replicate ops.size false).getD j true = false := by simp [hj]
    refine ⟨fun _ => ⟨items[j], List.getElem_mem _, hix j _ (List.getElem?_eq_getElem (by omega))⟩, fun _ => h1⟩
  · rw [List.Nodup, List.pairwise_map]
    exact hinc.imp fun h => Nat.ne_of_lt h
  · intro j o _ h
    by_cases hj : j < ops.size
    · simp [hj] at h
    · simp [hj] at h
  · intro pre post it ls hcl hsub hready hpre p hpp
    have hit : it ∈ items := hsub.subset (by simp)
    have hpit : p ∈ items := hsub.subset (by simp [hpp])
    have hlt : p.i < it.i := by
      have := hinc.sublist hsub
      rw [List.pairwise_append] at this
      exact this.2.2 p hpp it (by simp)
    obtain ⟨h1, o, h2, h3⟩ := mem_ready.1 hready
    obtain ⟨hi1, hi2⟩ := hmem it hit
    obtain ⟨hp1, hp2⟩ := hmem p hpit
    have hm : it.i < (befs ops.toList []).length := by rw [hB.1]; simpa using hi2
    rcases hspec p.i it.i p.foot it.foot (befs ops.toList [])[it.i] hlt (by simp [hp1]) (by simp [hi1]) (List.getElem?_eq_getElem hm) with h | h
    · exfalso
      rw [Nat.zero_add] at h
      obtain ⟨e, h4, h5⟩ := hB.2 it.i o _ (by simpa using h2) (List.getElem?_eq_getElem hm) p.i h
      obtain ⟨ed, h6, h7, h8⟩ := mem_binding.1 h4
      have hl := h3 ed h6 h7
      rw [h8] at hl
      have hpl : ls.getD p.i false = true := by
        rcases h5 with h5 | ⟨m', h9, h10⟩
        · rw [h5]; exact hl
        · exact listed_bef hcl hed hB (e + 1) e (by omega) hl m' p.i h9 h10
      have hpf := hpre p hpp
      rcases Nat.lt_or_ge p.i ls.size with hx | hx
      · simp [hx] at hpl hpf; rw [hpl] at hpf; cases hpf
      · simp [Array.getElem?_eq_none hx] at hpl
    · exact indepF_spec h
  · intro ls l hsz hsub hne hiff hnil
    cases l with
    | nil => exact hne rfl
    | cons it r =>
      have hit : it ∈ items := hsub.subset (by simp)
      obtain ⟨hi1, hi2⟩ := hmem it hit
      have hinc' := hinc.sublist hsub
      rw [List.pairwise_cons] at hinc'
      have : it.i ∈ Region.ready .any ops ls := by
        refine mem_ready.2 ⟨(hiff it.i hi2).2 ⟨it, by simp, rfl⟩, ops[it.i], Array.getElem?_eq_getElem hi2, fun e he hb => ?_⟩
        have hlt := edgesOk_spec _ 0 hed it.i ops[it.i] (by simp [Array.getElem?_eq_getElem hi2]) e.on (mem_binding.2 ⟨e, he, hb, rfl⟩)
        rw [Nat.zero_add] at hlt
        have hlt2 : e.on < ls.size := by omega
        cases hv : ls.getD e.on true with
        | false =>
          obtain ⟨x, hx, hxe⟩ := (hiff e.on (by omega)).1 hv
          simp only [List.mem_cons] at hx
          rcases hx with rfl | hx
          · omega
          · have := hinc'.1 x hx; omega
        | true => simp [hlt2] at hv ⊢; exact hv
      rw [hnil] at this
      cases this
end
end Go.Ab
