/- A part of the proof of 'VecScale': lemmas, no statement of their own; no condition. -/
import Derived.Test.YtgccejhdohpojaaAbO
namespace Go.Ab

/-! ### plain data, to and fro -/
class Cod (α : Type) where
  enc : α → Value
  dec : Value → Option α
  law : ∀ v a, dec v = some a → v = enc a
class Args (α : Type) where
  encs : α → List AV
  decs : List AV → Option α
  law : ∀ l a, decs l = some a → l = encs a

instance : Cod Int where
  enc x := .int .i64 x
  dec v := match v with | .int .i64 x => some x | _ => none
  law v a h := by split at h <;> simp_all
instance : Cod Bool where
  enc x := .bool x
  dec v := match v with | .bool x => some x | _ => none
  law v a h := by split at h <;> simp_all

structure V3 where
  x : Int
  y : Int
  z : Int
instance : Cod V3 where
  enc v := .agg #[.int .i64 v.x, .int .i64 v.y, .int .i64 v.z]
  dec v := match v with | .agg ⟨[.int .i64 x, .int .i64 y, .int .i64 z]⟩ => some ⟨x, y, z⟩ | _ => none
  law v a h := by split at h <;> simp_all; subst h; simp
structure V4 where
  w : Int
  x : Int
  y : Int
  z : Int
instance : Cod V4 where
  enc v := .agg #[.int .i64 v.w, .int .i64 v.x, .int .i64 v.y, .int .i64 v.z]
  dec v := match v with | .agg ⟨[.int .i64 w, .int .i64 x, .int .i64 y, .int .i64 z]⟩ => some ⟨w, x, y, z⟩ | _ => none
  law v a h := by split at h <;> simp_all; subst h; simp
structure M9 where
  a : V3
  b : V3
  c : V3
instance : Cod M9 where
  enc m := .agg #[.int .i64 m.a.x, .int .i64 m.a.y, .int .i64 m.a.z, .int .i64 m.b.x, .int .i64 m.b.y, .int .i64 m.b.z, .int .i64 m.c.x, .int .i64 m.c.y, .int .i64 m.c.z]
  dec v := match v with | .agg ⟨[.int .i64 a, .int .i64 b, .int .i64 c, .int .i64 d, .int .i64 e, .int .i64 f, .int .i64 g, .int .i64 h, .int .i64 i]⟩ => some ⟨⟨a, b, c⟩, ⟨d, e, f⟩, ⟨g, h, i⟩⟩ | _ => none
  law v a h := by split at h <;> simp_all; subst h; simp
structure Two (α β : Type) where
  a : α
  b : β
instance {α β : Type} [Cod α] [Cod β] : Cod (Two α β) where
  enc p := .tuple #[Cod.enc p.a, Cod.enc p.b]
  dec v := match v with
    | .tuple ⟨[a, b]⟩ => match Cod.dec a, Cod.dec b with | some x, some y => some ⟨x, y⟩ | _, _ => none
    | _ => none
  law v a h := by
    split at h
    · split at h
      · rename_i h1 h2
        cases h
        rw [Cod.law _ _ h1, Cod.law _ _ h2]
      · cases h
    · cases h

instance : Args Unit where
  encs _ := []
  decs l := match l with | [] => some () | _ => none
  law l a h := by split at h <;> simp_all
instance {α β : Type} [Cod α] [Args β] : Args (α × β) where
  encs p := .val (Cod.enc p.1) :: Args.encs p.2
  decs l := match l with
    | .val v :: r => match Cod.dec v, Args.decs r with | some x, some y => some (x, y) | _, _ => none
    | _ => none
  law l a h := by
    split at h
    · split at h
      · rename_i h1 h2
        cases h
        rw [Cod.law _ _ h1, Args.law _ _ h2]
      · cases h
    · cases h

/-! ### a method of a flow: numbers in, numbers and the flow out -/
variable {α ω : Type}
def row (e : TypeId) (b : Bool) : List Con := [.row e [.val (.bool b)]]
def S [Args α] [Cod ω] (e : TypeId) (g : Bool → α → ω × Bool) : Summary := fun args cs => match args, cs with
  | .ptr 0 0 :: r, [.row e' [.val (.bool b)]] => match Nat.beq e e', Args.decs (α := α) r with
    | true, some a => .ret (.val (Cod.enc (g b a).1)) (row e (g b a).2)
    | _, _ => .no
  | _, _ => .no
theorem S_sel [Args α] [Cod ω] {e : TypeId} {g : Bool → α → ω × Bool} {args : List AV} {cs cs' : List Con} {r : AV} (h : (S e g args cs).sel = some (r, cs')) :
    ∃ b a, args = .ptr 0 0 :: Args.encs a ∧ cs = row e b ∧ r = .val (Cod.enc (g b a).1) ∧ cs' = row e (g b a).2 := by
  unfold S at h
  split at h
  · split at h
    · rename_i e' b _ _ a h1 h2
      simp only [STr.sel, Option.some.injEq, Prod.mk.injEq] at h
      obtain ⟨rfl, rfl⟩ := h
      refine ⟨b, a, by rw [Args.law _ _ h2], ?_, rfl, rfl⟩
      rw [Nat.eq_of_beq_eq_true h1]; rfl
    · simp [STr.sel] at h
  · simp [STr.sel] at h
theorem S_ok [Args α] [Cod ω] {P : Program} {E : Env} (hG : GamOk P E.gam) {f : FuncId} {e : TypeId} {g : Bool → α → ω × Bool} (d : Nat)
    (h : ∀ b a, fnSum P E [] d f (.ptr 0 0 :: Args.encs a) (row e b) = some (.val (Cod.enc (g b a).1), row e (g b a).2)) : SumOk P f (S e g) := by
  refine sumOk_of hG fun args cs r cs' hs => ?_
  obtain ⟨b, a, rfl, rfl, rfl, rfl⟩ := S_sel hs
  exact ⟨by simp [row], d, h b a⟩
/-- A function without a flow. -/
def S0 [Args α] [Cod ω] (g : α → ω) : Summary := fun args cs => match cs with
  | [] => match Args.decs (α := α) args with
    | some a => .ret (.val (Cod.enc (g a))) []
    | none => .no
  | _ :: _ => .no
theorem S0_sel [Args α] [Cod ω] {g : α → ω} {args : List AV} {cs cs' : List Con} {r : AV} (h : (S0 g args cs).sel = some (r, cs')) :
    ∃ a, args = Args.encs a ∧ cs = [] ∧ r = .val (Cod.enc (g a)) ∧ cs' = [] := by
  unfold S0 at h
  split at h
  · split at h
    · rename_i a h1
      simp only [STr.sel, Option.some.injEq, Prod.mk.injEq] at h
      obtain ⟨rfl, rfl⟩ := h
      exact ⟨a, Args.law _ _ h1, rfl, rfl, rfl⟩
    · simp [STr.sel] at h
  · simp [STr.sel] at h
theorem S0_ok [Args α] [Cod ω] {P : Program} {E : Env} (hG : GamOk P E.gam) {f : FuncId} {g : α → ω} (d : Nat)
    (h : ∀ a, fnSum P E [] d f (Args.encs a) [] = some (.val (Cod.enc (g a)), [])) : SumOk P f (S0 g) := by
  refine sumOk_of hG fun args cs r cs' hs => ?_
  obtain ⟨a, rfl, rfl, rfl, rfl⟩ := S0_sel hs
  exact ⟨by simp, d, h a⟩

theorem GamOk.nil {P : Program} : GamOk P [] := fun p h => by cases h
theorem GamOk.cons {P : Program} {f : FuncId} {T : Summary} {Γ : Gam} (h : SumOk P f T) (k : GamOk P Γ) : GamOk P ((f, T) :: Γ) := by
  intro p hp
  rcases List.mem_cons.1 hp with rfl | hp
  · exact h
  · exact k p hp
theorem GamOk.append {P : Program} {Γ Δ : Gam} (h : GamOk P Γ) (k : GamOk P Δ) : GamOk P (Γ ++ Δ) := by
  intro p hp
  rcases List.mem_append.1 hp with hp | hp
  · exact h p hp
  · exact k p hp

/-- The numbers' own operations: how they answer, as functions that the texts name no further. -/
structure Ops where
  add : Bool → Int → Int → Int × Bool
  sub : Bool → Int → Int → Int × Bool
  mul : Bool → Int → Int → Int × Bool
  div : Bool → Int → Int → Int × Bool
  mod : Bool → Int → Int → Int × Bool
  part : Bool → Int → Int → Int → Int × Bool
  norm : Bool → Int → Int → Int → Int × Bool
  sqrt : Bool → Int → Int × Bool
def op1 (g : Bool → Int → Int × Bool) : Bool → Int × Unit → Int × Bool := fun b p => g b p.1
def op2 (g : Bool → Int → Int → Int × Bool) : Bool → Int × Int × Unit → Int × Bool := fun b p => g b p.1 p.2.1
def op3 (g : Bool → Int → Int → Int → Int × Bool) : Bool → Int × Int × Int × Unit → Int × Bool := fun b p => g b p.1 p.2.1 p.2.2.1
end Go.Ab
