/- A part of the proof of 'FrameOpens': lemmas, no statement of their own; no condition. -/
import Derived.Test.YtanilhagglikjaaLiA
/- Summaries out of walks: values in, a value out, where something holds. -/
namespace Go.Ab
open Go
variable {α ω : Type}
instance : Cod ByteArray where
  enc s := .string s
  dec v := match v with | .string s => some s | _ => none
  law v a h := by split at h <;> simp_all
/-- A number of 16 bits. -/
structure N16 where
  n : Nat
instance : Cod N16 where
  enc x := .int .u16 x.n
  dec v := match v with | .int .u16 (.ofNat n) => some ⟨n⟩ | _ => none
  law v a h := by split at h <;> simp_all; subst h; rfl
def S0w [Args α] [Cod ω] (pre : α → Bool) (g : α → ω) : Summary := fun args cs => match cs with
  | [] => match Args.decs (α := α) args with
    | some a => .test (pre a) (.ret (.val (Cod.enc (g a))) []) .no
    | none => .no
  | _ :: _ => .no
theorem S0w_sel [Args α] [Cod ω] {pre : α → Bool} {g : α → ω} {args : List AV} {cs cs' : List Con} {r : AV} (h : (S0w pre g args cs).sel = some (r, cs')) :
    ∃ a, pre a = true ∧ args = Args.encs a ∧ cs = [] ∧ r = .val (Cod.enc (g a)) ∧ cs' = [] := by
  unfold S0w at h
  split at h
  · split at h
    · rename_i a ha
      cases hp : pre a with
      | false => rw [hp] at h; simp [STr.sel] at h
      | true =>
        rw [hp] at h
        simp only [STr.sel, cond_true, Option.some.injEq, Prod.mk.injEq] at h
        obtain ⟨rfl, rfl⟩ := h
        exact ⟨a, hp, Args.law _ _ ha, rfl, rfl, rfl⟩
    · simp [STr.sel] at h
  · simp [STr.sel] at h
/-- Arguments as they stand. -/
class Plains (α : Type) [Args α] where
  vals : α → List Value
  law : ∀ a : α, Args.encs a = (vals a).map AV.val
instance : Plains Unit where
  vals _ := []
  law _ := rfl
instance {α β : Type} [Cod α] [Args β] [Plains β] : Plains (α × β) where
  vals p := Cod.enc p.1 :: Plains.vals p.2
  law a := by show _ :: Args.encs a.2 = _; rw [Plains.law a.2]; rfl
theorem rels_vals {σ : Nat → Option Nat} : ∀ (l vs : List Value), Rels σ (l.map AV.val) vs → vs = l
  | [], vs, h => by simpa only [List.map_nil, Rels] using h
  | v :: l, vs, h => by
    simp only [List.map_cons, Rels] at h
    obtain ⟨x, xs, rfl, h1, h2⟩ := h
    simp only [Rel] at h1
    rw [h1, rels_vals l xs h2]
theorem S0w_of [Args α] [Plains α] [Cod ω] {P : Program} {f : FuncId} {pre : α → Bool} {g : α → ω}
    (h : ∀ a w, pre a = true → Calls P f (List.toArray (Plains.vals a)) w fun e w' => ∃ v, e = .returned v ∧ RowKit.Below w.heap.size w w' ∧ v = Cod.enc (g a)) : SumOk P f (S0w pre g) := by
  intro args cs r cs' hs
  obtain ⟨a, hp, rfl, rfl, rfl, rfl⟩ := S0w_sel hs
  refine ⟨by simp, fun σ vals w hinj hbd hvals _ _ => ?_⟩
  rw [Plains.law] at hvals
  obtain rfl := rels_vals _ _ hvals
  refine Calls.mono (h a w hp) fun e w' he => ?_
  obtain ⟨v, rfl, hb, rfl⟩ := he
  refine ⟨σ, _, rfl, Le.refl σ, fun b hb _ => hb, by simp only [Rel], fun b c hb => ?_, hinj, fun b r hr => Nat.lt_of_lt_of_le (hbd b r hr) hb.size, fun b c hb => ?_, hb.os, hb.tape, hb.output, hb.size, fun k hk _ => hb.block k hk⟩
  · simp [numH, hget] at hb
  · simp [numH, hget] at hb
end Go.Ab
