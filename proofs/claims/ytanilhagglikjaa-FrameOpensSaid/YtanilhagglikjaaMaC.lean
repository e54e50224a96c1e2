/- A part of the proof of 'FrameOpens': lemmas, no statement of their own; no condition. -/
import Derived.Test.YtanilhagglikjaaMaB
import Derived.Test.YtanilhagglikjaaAbTwo
/- What a round has made is forgotten behind it. -/
namespace Go.Ab
open Go
def okClean (lo : Nat) (s : St) : Bool := (s.tmps.all fun a => (names a).all fun b => Nat.blt b lo) && s.heap.all fun p => Nat.blt p.1 lo && (conNames p.2).all fun b => Nat.blt b lo
theorem hget_mem : ∀ {H : Hp} {b : Nat} {c : Con}, hget H b = some c → (b, c) ∈ H
  | [], b, c, h => by simp [hget] at h
  | (b', c') :: r, b, c, h => by
    simp only [hget] at h
    split at h
    · rename_i e
      cases h
      rw [Nat.eq_of_beq_eq_true e]
      simp
    · exact List.mem_cons_of_mem _ (hget_mem h)
theorem Stand.cut {F : Nat → Prop} {w0 : World} {N : Nat} {s : St} {a : Act} {w : World} (h : Stand F w0 N s a w) {lo hi : Nat} (hc : okClean lo s = true) : Stand F w0 N { s with lo := lo, hi := hi } a w := by
  obtain ⟨σ, ⟨⟨u, hf, hs⟩, hn⟩, hk, hF⟩ := h
  have hw := hf.sub hs
  simp only [okClean, Bool.and_eq_true, List.all_eq_true, Nat.blt_eq] at hc
  obtain ⟨hct, hch⟩ := hc
  have hcl : ∀ l c, s.u l = some c → CleanC lo hi c := by
    intro l c hl
    cases l with
    | tmp t =>
      simp only [St.u, stU, Option.map_eq_some_iff] at hl
      obtain ⟨x, hx, rfl⟩ := hl
      intro b hb
      have := hct x (List.mem_of_getElem? hx) b hb
      unfold cleanB
      omega
    | blk b =>
      have hm := hget_mem (H := s.heap) hl
      have := (hch _ hm).2
      cases c with
      | av x => intro d hd; have := this d hd; unfold cleanB; omega
      | row e cs => intro d hd; have := this d hd; unfold cleanB; omega
      | obj o => trivial
  have hbl : ∀ b c, s.u (.blk b) = some c → cleanB lo hi b := by
    intro b c hl
    have hm := hget_mem (H := s.heap) hl
    have := (hch _ hm).1
    unfold cleanB
    omega
  refine ⟨cutσ σ lo hi, ⟨⟨s.u, ?_, fun l c h => h⟩, fun b hb1 hb2 => ?_⟩, hk, fun b r hb => hF b r (cutσ_some hb)⟩
  · refine { hw with tmp := fun t v hv => ?_, row := fun b e cs hb => ?_, obj := fun b o hb => ?_, inj := fun b b' r h1 h2 => hw.inj b b' r (cutσ_some h1) (cutσ_some h2), bound := fun b r hb => hw.bound b r (cutσ_some hb), ownsR := fun b _ _ _ _ hr => .inl ⟨b, hr⟩, ownsO := fun b _ _ _ hr => .inl ⟨b, hr⟩, os := rfl, tape := rfl, output := rfl, grown := Nat.le_refl _, frame := fun _ _ _ => rfl }
    · obtain ⟨x, h3, h4⟩ := hw.tmp t v hv
      exact ⟨x, h3, Rel.cut v x (hcl _ _ hv) h4⟩
    · obtain ⟨r, vs, h3, h4, h5⟩ := hw.row b e cs hb
      exact ⟨r, vs, by rw [cutσ_clean (hbl b _ hb)]; exact h3, h4, Rels.cut cs vs (hcl _ _ hb) h5⟩
    · obtain ⟨r, o', h3, h4, h5⟩ := hw.obj b o hb
      exact ⟨r, o', by rw [cutσ_clean (hbl b _ hb)]; exact h3, h4, h5⟩
  · unfold cutσ
    rw [if_pos ⟨hb1, hb2⟩]
end Go.Ab
