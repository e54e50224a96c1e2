/- A part of the proof of 'VecScale': lemmas, no statement of their own; no condition. -/
import Derived.Test.YtgccejhdohpojaaAcA
import Derived.Test.YtgccejhdohpojaaAbP
namespace Go.Ab
structure U6 where
  n : Int
instance : Cod U6 where
  enc x := .int .u64 x.n
  dec v := match v with | .int .u64 x => some ⟨x⟩ | _ => none
  law v a h := by split at h <;> simp_all; subst h; simp
/-- A function without blocks, where a condition holds. -/
def S0c {α ω : Type} [Args α] [Cod ω] (pre : α → Bool) (g : α → ω) : Summary := fun args cs => match cs with
  | [] => match Args.decs (α := α) args with
    | some a => .test (pre a) (.ret (.val (Cod.enc (g a))) []) .no
    | none => .no
  | _ :: _ => .no
theorem S0c_sel {α ω : Type} [Args α] [Cod ω] {pre : α → Bool} {g : α → ω} {args : List AV} {cs cs' : List Con} {r : AV} (h : (S0c pre g args cs).sel = some (r, cs')) :
    ∃ a, pre a = true ∧ args = Args.encs a ∧ cs = [] ∧ r = .val (Cod.enc (g a)) ∧ cs' = [] := by
  unfold S0c at h
  split at h
  · split at h
    · rename_i a h1
      simp only [STr.sel] at h
      cases hp : pre a with
      | false => rw [hp] at h; cases h
      | true =>
        rw [hp] at h
        simp only [cond_true, Option.some.injEq, Prod.mk.injEq] at h
        obtain ⟨rfl, rfl⟩ := h
        exact ⟨a, hp, Args.law _ _ h1, rfl, rfl, rfl⟩
    · simp [STr.sel] at h
  · simp [STr.sel] at h
theorem S0c_ok {α ω : Type} [Args α] [Cod ω] {P : Program} {E : Env} (hG : GamOk P E.gam) {f : FuncId} {pre : α → Bool} {g : α → ω} (d : Nat)
    (h : ∀ a, pre a = true → fnSum P E [] d f (Args.encs a) [] = some (.val (Cod.enc (g a)), [])) : SumOk P f (S0c pre g) := by
  refine sumOk_of hG fun args cs r cs' hs => ?_
  obtain ⟨a, hp, rfl, rfl, rfl, rfl⟩ := S0c_sel hs
  exact ⟨by simp, d, h a hp⟩
theorem S0c_okH {α ω : Type} [Args α] [Cod ω] {P : Program} {E : Env} (hG : GamOk P E.gam) {hB : Hints} {f : FuncId} (hfit : ∀ fn c, P.funcs[f]? = some fn → fn.body = some c → HFit P fn.ntmps hB c) {pre : α → Bool} {g : α → ω} (d : Nat)
    (h : ∀ a, pre a = true → fnSum P E hB d f (Args.encs a) [] = some (.val (Cod.enc (g a)), [])) : SumOk P f (S0c pre g) := by
  refine sumOk_ofH hG hfit fun args cs r cs' hs => ?_
  obtain ⟨a, hp, rfl, rfl, rfl, rfl⟩ := S0c_sel hs
  exact ⟨by simp, d, h a hp⟩
/-- A contract that leaves the world as it was. -/
theorem facts_quiet {P : Program} {f : FuncId} {vals : List Value} {v : Value} (h : ∀ w, Calls P f (List.toArray vals) w fun e w' => e = .returned v ∧ w' = w) : CallFacts P f (vals.map .val) (numH 0 []) 0 0 (.val v) (numH 0 []) := by
  intro σ vs w hinj hbd hvals _ _
  have e : vs = vals := by
    clear h hinj hbd
    induction vals generalizing vs with
    | nil => simpa only [List.map_nil, Rels] using hvals
    | cons a r ih =>
      simp only [List.map_cons, Rels] at hvals
      obtain ⟨x, xs, rfl, h1, h2⟩ := hvals
      simp only [Rel] at h1
      rw [h1, ih xs h2]
  subst e
  refine Calls.mono (h w) fun e w' ⟨he, hw⟩ => ?_
  subst hw
  exact ⟨σ, v, he, Le.refl σ, fun _ h _ => h, by simp only [Rel], fun b c hb => by simp [numH, hget] at hb, hinj, hbd, fun b c hb => by simp [numH, hget] at hb, rfl, rfl, rfl, Nat.le_refl _, fun _ _ _ => rfl⟩
theorem S0c_quiet {α ω : Type} [Args α] [Cod ω] {P : Program} {f : FuncId} {pre : α → Bool} {g : α → ω} (vals : α → List Value) (hv : ∀ a, Args.encs a = (vals a).map .val)
    (h : ∀ a, pre a = true → ∀ w, Calls P f (List.toArray (vals a)) w fun e w' => e = .returned (Cod.enc (g a)) ∧ w' = w) : SumOk P f (S0c pre g) := by
  intro args cs r cs' hs
  obtain ⟨a, hp, rfl, rfl, rfl, rfl⟩ := S0c_sel hs
  exact ⟨rfl, by rw [hv]; exact facts_quiet (h a hp)⟩
end Go.Ab
