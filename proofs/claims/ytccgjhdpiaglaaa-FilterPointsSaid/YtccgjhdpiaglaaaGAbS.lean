/- A part of the proofs: lemmas, no statement of their own; no condition. -/
import Derived.Test.YtccgjhdpiaglaaaGAbL
import Derived.Deep.Slices
namespace Go.Ab
/-! ### loops over values of any kind in temporaries and in rows: the whole heap is told -/
def rdV (l : List AV) : List Nat → Option (List Value)
  | [] => some []
  | t :: r => match l[t]? with
    | some (.val v) => match rdV l r with
      | some vs => some (v :: vs)
      | none => none
    | _ => none
def wrV : List Nat → List Value → List (Nat × AV)
  | t :: r, v :: vs => (t, .val v) :: wrV r vs
  | _, _ => []
theorem rdV_len {l : List AV} : ∀ {sl : List Nat} {vs : List Value}, rdV l sl = some vs → vs.length = sl.length
  | [], vs, h => by simp only [rdV, Option.some.injEq] at h; subst h; rfl
  | t :: r, vs, h => by
    simp only [rdV] at h
    split at h
    · split at h
      · rename_i ws hw
        cases h
        simp [rdV_len hw]
      · cases h
    · cases h
theorem wrV_more {l : List AV} : ∀ {sl : List Nat} {vs : List Value} (rest : List Value), rdV l sl = some vs → ∀ p ∈ wrV sl (vs ++ rest), l[p.1]? = some p.2
  | [], vs, rest, h, p, hp => by simp [wrV] at hp
  | t :: r, vs, rest, h, p, hp => by
    simp only [rdV] at h
    split at h
    · rename_i v hv
      split at h
      · rename_i ws hw
        cases h
        simp only [List.cons_append, wrV, List.mem_cons] at hp
        rcases hp with rfl | hp
        · exact hv
        · exact wrV_more rest hw p hp
      · cases h
    · cases h
theorem wrV_slot : ∀ {sl : List Nat} {vs : List Value} {p : Nat × AV}, p ∈ wrV sl vs → p.1 ∈ sl
  | [], vs, p, h => by simp [wrV] at h
  | t :: r, [], p, h => by simp [wrV] at h
  | t :: r, v :: vs, p, h => by
    simp only [wrV, List.mem_cons] at h
    rcases h with rfl | h
    · simp
    · exact List.mem_cons_of_mem _ (wrV_slot h)
abbrev RowsV := List (Nat × TypeId × Nat)
def rdCs : Nat → List AV → Option (List Value)
  | 0, [] => some []
  | n + 1, .val v :: r => match rdCs n r with
    | some vs => some (v :: vs)
    | none => none
  | _, _ => none
def wrCs : Nat → List Value → Option (List AV × List Value)
  | 0, vs => some ([], vs)
  | n + 1, v :: vs => match wrCs n vs with
    | some (l, rest) => some (.val v :: l, rest)
    | none => none
  | _ + 1, [] => none
theorem rdCs_wr : ∀ {n : Nat} {l : List AV} {vs : List Value} (rest : List Value), rdCs n l = some vs → vs.length = n ∧ wrCs n (vs ++ rest) = some (l, rest)
  | 0, [], vs, rest, h => by simp only [rdCs, Option.some.injEq] at h; subst h; exact ⟨rfl, rfl⟩
  | 0, _ :: _, vs, rest, h => by simp [rdCs] at h
  | n + 1, [], vs, rest, h => by simp [rdCs] at h
  | n + 1, a :: r, vs, rest, h => by
    cases a <;> simp only [rdCs] at h <;> try cases h
    split at h
    · rename_i ws hw
      cases h
      obtain ⟨h1, h2⟩ := rdCs_wr rest hw
      exact ⟨by simp [h1], by simp [wrCs, h2]⟩
    · cases h
def rowLenV : RowsV → Nat
  | [] => 0
  | (_, _, n) :: r => n + rowLenV r
def rdW : RowsV → Hp → Option (List Value)
  | [], [] => some []
  | (b, e, n) :: r, (b', .row e' cs) :: h => match Nat.beq b b', Nat.beq e e', rdCs n cs, rdW r h with
    | true, true, some xs, some ys => some (xs ++ ys)
    | _, _, _, _ => none
  | _, _ => none
def wrW : RowsV → List Value → Hp
  | (b, e, n) :: r, xs => match wrCs n xs with | some (cs, ys) => (b, .row e cs) :: wrW r ys | none => []
  | [], _ => []
theorem rdW_wr : ∀ {rows : RowsV} {h : Hp} {xs : List Value}, rdW rows h = some xs → xs.length = rowLenV rows ∧ wrW rows xs = h
  | [], [], xs, h => by simp only [rdW, Option.some.injEq] at h; subst h; exact ⟨rfl, rfl⟩
  | [], _ :: _, xs, h => by simp [rdW] at h
  | (b, e, n) :: r, [], xs, h => by simp [rdW] at h
  | (b, e, n) :: r, (b', c) :: hp, xs, h => by
    cases c with
    | av a => simp [rdW] at h
    | obj o => simp [rdW] at h
    | row e' cs =>
      simp only [rdW] at h
      split at h
      · rename_i zs ys hb he hz hy
        cases h
        have hb := Nat.eq_of_beq_eq_true hb
        have he := Nat.eq_of_beq_eq_true he
        subst hb; subst he
        obtain ⟨h1, h2⟩ := rdW_wr hy
        obtain ⟨h3, h4⟩ := rdCs_wr ys hz
        exact ⟨by simp [rowLenV, h1, h3], by simp [wrW, h4, h2]⟩
      · cases h
theorem wrW_has : ∀ {rows : RowsV} {xs : List Value} {b : Nat} {c : Con}, hget (wrW rows xs) b = some c → ∃ q ∈ rows, q.1 = b
  | [], xs, b, c, h => by simp [wrW, hget] at h
  | (b', e, n) :: r, xs, b, c, h => by
    simp only [wrW] at h
    split at h
    · simp only [hget] at h
      split at h
      · rename_i hb; exact ⟨(b', e, n), by simp, Nat.eq_of_beq_eq_true hb⟩
      · obtain ⟨q, h1, h2⟩ := wrW_has h; exact ⟨q, by simp [h1], h2⟩
    · simp [hget] at h
def lvTm (sl : List Nat) (fx : List (Nat × Nat × Nat)) (G : List Nat) (xs : List Value) : List (Nat × AV) := wrV sl xs ++ (fxs fx ++ anys G)
def lvSt (N : Nat) (sl : List Nat) (fx : List (Nat × Nat × Nat)) (G : List Nat) (rows : RowsV) (xs : List Value) (x : Nat → AV) (lo hi step : Nat) : St := ⟨tmA N (lvTm sl fx G xs) x, wrW rows (xs.drop sl.length), lo, hi, step, []⟩
def lvHint (N : Nat) (sl : List Nat) (fx : List (Nat × Nat × Nat)) (G : List Nat) (rows : RowsV) (pre : List Value → Bool) (post : List Value → List Value) (s : St) : HTr :=
  match rdV s.tmps sl, rdW rows s.heap, fxOk s.tmps fx, Nat.beq s.tmps.length N with
  | some xs, some ys, true, true => .test (pre (xs ++ ys)) (.ret { s with tmps := ovL (lvTm sl fx G (post (xs ++ ys))) 0 s.tmps, heap := wrW rows ((post (xs ++ ys)).drop sl.length), log := sl.map .tmp ++ (fx.map (fun p => .tmp p.1) ++ (G.map .tmp ++ (rows.map (fun p => .blk p.1) ++ s.log))) }) .no
  | _, _, _, _ => .no

theorem lv_ok {P : Program} {call : CallP} (hcall : ∀ β, CallOk P (call β)) {N F id : Nat} {wy : Way} {body : Code} {sl : List Nat} {fx : List (Nat × Nat × Nat)} {G : List Nat} {rows : RowsV} {pre : List Value → Bool} {post : List Value → List Value} (μ : List Value → Nat)
    (hstep : ∀ xs, xs.length = sl.length + rowLenV rows → pre xs = true → ∀ x lo hi step,
      (∃ ys, ys.length = sl.length + rowLenV rows ∧ pre ys = true ∧ μ ys < μ xs ∧ post ys = post xs ∧ run P call N wy [] F (Ex × St) body (lvSt N sl fx G rows xs x lo hi step) (fun e s' => some (e, maskSt G s')) = some (.normal, lvSt N sl fx G rows ys x lo hi step)) ∨
      run P call N wy [] F (Ex × St) body (lvSt N sl fx G rows xs x lo hi step) (fun e s' => some (e, maskSt G s')) = some (.exit id, lvSt N sl fx G rows (post xs) x lo hi step)) :
    ∀ s s', (lvHint N sl fx G rows pre post s).sel = some s' → RunsTo P N (.block id (.loop body)) s .normal s' ∧ LogOk s s' := by
  intro s s' hs
  unfold lvHint at hs
  split at hs
  · rename_i xs ys hxs hys hfx hN
    have hN := Nat.eq_of_beq_eq_true hN
    simp only [HTr.sel] at hs
    cases hp : pre (xs ++ ys) with
    | false => rw [hp] at hs; cases hs
    | true =>
      rw [hp] at hs
      simp only [cond_true, Option.some.injEq] at hs
      subst hs
      have hlen := rdV_len hxs
      have hmem := wrV_more ys hxs
      obtain ⟨hlen2, hheap⟩ := rdW_wr hys
      have hfix := fxOk_mem hfx
      have hdrop : (xs ++ ys).drop (sl.length) = ys := by rw [← hlen]; simp
      let x : Nat → AV := fun i => s.tmps.getD i .any
      refine ⟨?_, ?_⟩
      · let ι := { xs : List Value // xs.length = sl.length + rowLenV rows ∧ pre xs = true }
        have hl := RunsTo.loop (P := P) (N := N) (c := body) (ι := ι) (fun i => lvSt N sl fx G rows i.1 x s.lo s.hi s.step) (fun i => μ i.1) (fun i => lvSt N sl fx G rows (post i.1) x s.lo s.hi s.step) (.exit id) (by
          intro ⟨xs, h1, h2⟩
          rcases hstep xs h1 h2 x s.lo s.hi s.step with ⟨ys, k1, k2, k3, k4, k5⟩ | k
          · exact .inl ⟨⟨ys, k1, k2⟩, k3, by simp only [k4], runs_of hcall G k5⟩
          · exact .inr ⟨runs_of hcall G k, by simp⟩) ⟨xs ++ ys, by simp [hlen, hlen2], hp⟩
        have hb := RunsTo.block hl (.inr rfl)
        refine (hb.weak_start (s0 := s) ?_ (Nat.le_refl _) (Nat.le_refl _)).weak_end ?_ (Nat.le_refl _) (Nat.le_refl _)
        · intro l c' h
          cases l with
          | blk b =>
            simp only [St.u, lvSt, stU, hdrop, hheap] at h
            exact ⟨c', h, WkC.refl c'⟩
          | tmp t =>
            simp only [St.u, lvSt, stU, tmA_get] at h
            split at h
            · rename_i ht
              simp only [Option.map_some, Option.some.injEq] at h
              have hst : s.tmps[t]? = some (x t) := by
                have : t < s.tmps.length := by omega
                simp [x, this]
              refine ⟨.av (x t), by simp [St.u, stU, hst], ?_⟩
              subst h
              rcases ovA_cases (lvTm sl fx G (xs ++ ys)) x t with ⟨p, h1, h2, h3⟩ | ⟨h1, _⟩
              · rw [h3]
                unfold lvTm at h1
                rcases List.mem_append.1 h1 with h1 | h1
                · have := hmem p h1
                  rw [h2, hst] at this
                  rw [← Option.some.inj this]
                  exact WkC.refl _
                · rcases List.mem_append.1 h1 with h1 | h1
                  · have := hfix p h1
                    rw [h2, hst] at this
                    rw [← Option.some.inj this]
                    exact WkC.refl _
                  · simp only [anys, List.mem_map] at h1
                    obtain ⟨g, _, rfl⟩ := h1
                    exact fun _ _ _ => by simp only [Rel]
              · rw [h1]; exact WkC.refl _
            · simp at h
        · intro l c' h
          refine ⟨c', ?_, WkC.refl c'⟩
          have e := ovL_tmA hN (lvTm sl fx G (post (xs ++ ys)))
          simpa only [St.u, lvSt, e] using h
      · refine ⟨fun l hl => by simp [hl], fun l hl => ?_⟩
        cases l with
        | blk b =>
          have hno : ∀ q ∈ rows, q.1 ≠ b := by
            intro q hq e
            apply hl
            simp only [List.mem_append, List.mem_map]
            exact .inr (.inr (.inr (.inl ⟨q, hq, by rw [e]⟩)))
          have h1 : ∀ zs, hget (wrW rows zs) b = none := by
            intro zs
            cases hz : hget (wrW rows zs) b with
            | none => rfl
            | some c => obtain ⟨q, h2, h3⟩ := wrW_has hz; exact absurd h3 (hno q h2)
          show hget (wrW rows _) b = hget s.heap b
          rw [h1, ← hheap, h1]
        | tmp t =>
          simp only [St.u, stU, ovL_get, Nat.zero_add]
          cases ht : s.tmps[t]? with
          | none => rfl
          | some a =>
            simp only [Option.map_some, Option.some.injEq, Con.av.injEq]
            rcases ovA_cases (lvTm sl fx G (post (xs ++ ys))) (fun _ => a) t with ⟨p, h1, h2, h3⟩ | ⟨h1, _⟩
            · exfalso
              apply hl
              simp only [List.mem_append, List.mem_map]
              unfold lvTm at h1
              rcases List.mem_append.1 h1 with h1 | h1
              · exact .inl ⟨p.1, wrV_slot h1, by rw [h2]⟩
              · rcases List.mem_append.1 h1 with h1 | h1
                · simp only [fxs, List.mem_map] at h1
                  obtain ⟨q, h4, rfl⟩ := h1
                  exact .inr (.inl ⟨q, h4, by rw [← h2]⟩)
                · simp only [anys, List.mem_map] at h1
                  obtain ⟨g, h4, rfl⟩ := h1
                  exact .inr (.inr (.inl ⟨g, h4, by rw [← h2]⟩))
            · exact h1
  · simp [HTr.sel] at hs
end Go.Ab
namespace Go.Ab

/-! ### plain data, to and fro -/
class Cod (α : Type) where
  enc : α → Value
  dec : Value → Option α
  law : ∀ v a, dec v = some a → v = enc a
class Args (α : Type) where
  encs : α → List AV
  decs : List AV → Option α
  law : ∀ l a, decs l = some a → l = encs a

instance : Cod Int where
  enc x := .int .i64 x
  dec v := match v with | .int .i64 x => some x | _ => none
  law v a h := by split at h <;> simp_all
instance : Cod Bool where
  enc x := .bool x
  dec v := match v with | .bool x => some x | _ => none
  law v a h := by split at h <;> simp_all

structure V3 where
  x : Int
  y : Int
  z : Int
instance : Cod V3 where
  enc v := .agg #[.int .i64 v.x, .int .i64 v.y, .int .i64 v.z]
  dec v := match v with | .agg ⟨[.int .i64 x, .int .i64 y, .int .i64 z]⟩ => some ⟨x, y, z⟩ | _ => none
  law v a h := by split at h <;> simp_all; subst h; simp
structure V4 where
  w : Int
  x : Int
  y : Int
  z : Int
instance : Cod V4 where
  enc v := .agg #[.int .i64 v.w, .int .i64 v.x, .int .i64 v.y, .int .i64 v.z]
  dec v := match v with | .agg ⟨[.int .i64 w, .int .i64 x, .int .i64 y, .int .i64 z]⟩ => some ⟨w, x, y, z⟩ | _ => none
  law v a h := by split at h <;> simp_all; subst h; simp
structure M9 where
  a : V3
  b : V3
  c : V3
instance : Cod M9 where
  enc m := .agg #[.int .i64 m.a.x, .int .i64 m.a.y, .int .i64 m.a.z, .int .i64 m.b.x, .int .i64 m.b.y, .int .i64 m.b.z, .int .i64 m.c.x, .int .i64 m.c.y, .int .i64 m.c.z]
  dec v := match v with | .agg ⟨[.int .i64 a, .int .i64 b, .int .i64 c, .int .i64 d, .int .i64 e, .int .i64 f, .int .i64 g, .int .i64 h, .int .i64 i]⟩ => some ⟨⟨a, b, c⟩, ⟨d, e, f⟩, ⟨g, h, i⟩⟩ | _ => none
  law v a h := by split at h <;> simp_all; subst h; simp
structure Two (α β : Type) where
  a : α
  b : β
instance {α β : Type} [Cod α] [Cod β] : Cod (Two α β) where
  enc p := .tuple #[Cod.enc p.a, Cod.enc p.b]
  dec v := match v with
    | .tuple ⟨[a, b]⟩ => match Cod.dec a, Cod.dec b with | some x, some y => some ⟨x, y⟩ | _, _ => none
    | _ => none
  law v a h := by
    split at h
    · split at h
      · rename_i h1 h2
        cases h
        rw [Cod.law _ _ h1, Cod.law _ _ h2]
      · cases h
    · cases h

instance : Args Unit where
  encs _ := []
  decs l := match l with | [] => some () | _ => none
  law l a h := by split at h <;> simp_all
instance {α β : Type} [Cod α] [Args β] : Args (α × β) where
  encs p := .val (Cod.enc p.1) :: Args.encs p.2
  decs l := match l with
    | .val v :: r => match Cod.dec v, Args.decs r with | some x, some y => some (x, y) | _, _ => none
    | _ => none
  law l a h := by
    split at h
    · split at h
      · rename_i h1 h2
        cases h
        rw [Cod.law _ _ h1, Args.law _ _ h2]
      · cases h
    · cases h

/-! ### a method of a flow: numbers in, numbers and the flow out -/
variable {α ω : Type}
def row (e : TypeId) (b : Bool) : List Con := [.row e [.val (.bool b)]]
def S [Args α] [Cod ω] (e : TypeId) (g : Bool → α → ω × Bool) : Summary := fun args cs => match args, cs with
  | .ptr 0 0 :: r, [.row e' [.val (.bool b)]] => match Nat.beq e e', Args.decs (α := α) r with
    | true, some a => .ret (.val (Cod.enc (g b a).1)) (row e (g b a).2)
    | _, _ => .no
  | _, _ => .no
theorem S_sel [Args α] [Cod ω] {e : TypeId} {g : Bool → α → ω × Bool} {args : List AV} {cs cs' : List Con} {r : AV} (h : (S e g args cs).sel = some (r, cs')) :
    ∃ b a, args = .ptr 0 0 :: Args.encs a ∧ cs = row e b ∧ r = .val (Cod.enc (g b a).1) ∧ cs' = row e (g b a).2 := by
  unfold S at h
  split at h
  · split at h
    · rename_i e' b _ _ a h1 h2
      simp only [STr.sel, Option.some.injEq, Prod.mk.injEq] at h
      obtain ⟨rfl, rfl⟩ := h
      refine ⟨b, a, by rw [Args.law _ _ h2], ?_, rfl, rfl⟩
      rw [Nat.eq_of_beq_eq_true h1]; rfl
    · simp [STr.sel] at h
  · simp [STr.sel] at h
theorem S_ok [Args α] [Cod ω] {P : Program} {E : Env} (hG : GamOk P E.gam) {f : FuncId} {e : TypeId} {g : Bool → α → ω × Bool} (d : Nat)
    (h : ∀ b a, fnSum P E [] d f (.ptr 0 0 :: Args.encs a) (row e b) = some (.val (Cod.enc (g b a).1), row e (g b a).2)) : SumOk P f (S e g) := by
  refine sumOk_of hG fun args cs r cs' hs => ?_
  obtain ⟨b, a, rfl, rfl, rfl, rfl⟩ := S_sel hs
  exact ⟨by simp [row], d, h b a⟩
/-- A function without a flow. -/
def S0 [Args α] [Cod ω] (g : α → ω) : Summary := fun args cs => match cs with
  | [] => match Args.decs (α := α) args with
    | some a => .ret (.val (Cod.enc (g a))) []
    | none => .no
  | _ :: _ => .no
theorem S0_sel [Args α] [Cod ω] {g : α → ω} {args : List AV} {cs cs' : List Con} {r : AV} (h : (S0 g args cs).sel = some (r, cs')) :
    ∃ a, args = Args.encs a ∧ cs = [] ∧ r = .val (Cod.enc (g a)) ∧ cs' = [] := by
  unfold S0 at h
  split at h
  · split at h
    · rename_i a h1
      simp only [STr.sel, Option.some.injEq, Prod.mk.injEq] at h
      obtain ⟨rfl, rfl⟩ := h
      exact ⟨a, Args.law _ _ h1, rfl, rfl, rfl⟩
    · simp [STr.sel] at h
  · simp [STr.sel] at h
theorem S0_ok [Args α] [Cod ω] {P : Program} {E : Env} (hG : GamOk P E.gam) {f : FuncId} {g : α → ω} (d : Nat)
    (h : ∀ a, fnSum P E [] d f (Args.encs a) [] = some (.val (Cod.enc (g a)), [])) : SumOk P f (S0 g) := by
  refine sumOk_of hG fun args cs r cs' hs => ?_
  obtain ⟨a, rfl, rfl, rfl, rfl⟩ := S0_sel hs
  exact ⟨by simp, d, h a⟩

theorem GamOk.nil {P : Program} : GamOk P [] := fun p h => by cases h
theorem GamOk.cons {P : Program} {f : FuncId} {T : Summary} {Γ : Gam} (h : SumOk P f T) (k : GamOk P Γ) : GamOk P ((f, T) :: Γ) := by
  intro p hp
  rcases List.mem_cons.1 hp with rfl | hp
  · exact h
  · exact k p hp
theorem GamOk.append {P : Program} {Γ Δ : Gam} (h : GamOk P Γ) (k : GamOk P Δ) : GamOk P (Γ ++ Δ) := by
  intro p hp
  rcases List.mem_append.1 hp with hp | hp
  · exact h p hp
  · exact k p hp

/-- The numbers' own operations: how they answer, as functions that the texts name no further. -/
structure Ops where
  add : Bool → Int → Int → Int × Bool
  sub : Bool → Int → Int → Int × Bool
  mul : Bool → Int → Int → Int × Bool
  div : Bool → Int → Int → Int × Bool
  mod : Bool → Int → Int → Int × Bool
  part : Bool → Int → Int → Int → Int × Bool
  norm : Bool → Int → Int → Int → Int × Bool
  sqrt : Bool → Int → Int × Bool
def op1 (g : Bool → Int → Int × Bool) : Bool → Int × Unit → Int × Bool := fun b p => g b p.1
def op2 (g : Bool → Int → Int → Int × Bool) : Bool → Int × Int × Unit → Int × Bool := fun b p => g b p.1 p.2.1
def op3 (g : Bool → Int → Int → Int → Int × Bool) : Bool → Int × Int × Int × Unit → Int × Bool := fun b p => g b p.1 p.2.1 p.2.2.1
end Go.Ab
/- Walks by hand, piece by piece, where the interpreter has no word: what the frame knows is told anew at each piece. -/
namespace Go.Ab
open Go
def Own (σ : Nat → Option Nat) : Nat → Prop := fun k => ∃ b, σ b = some k
/-- The frame's state, as it stands. -/
structure Here (N : Nat) (s : St) (σ : Nat → Option Nat) (a : Act) (w : World) : Prop where
  fits : ∃ u, Fits N w (Own σ) σ u a w ∧ Sub s.u u
  fresh : ∀ b, s.lo ≤ b → b < s.hi → σ b = none
/-- All memory but the named blocks is as it was. -/
structure KeptBut (own : Nat → Prop) (w w' : World) : Prop where
  os : w'.os = w.os
  tape : w'.tape = w.tape
  output : w'.output = w.output
  grown : w.heap.size ≤ w'.heap.size
  frame : ∀ k, k < w.heap.size → ¬ own k → w'.heap[k]? = w.heap[k]?
theorem KeptBut.refl (own : Nat → Prop) (w : World) : KeptBut own w w := ⟨rfl, rfl, rfl, Nat.le_refl _, fun _ _ _ => rfl⟩
theorem Fits.rebase {N : Nat} {w0 : World} {own : Nat → Prop} {σ : Nat → Option Nat} {u : U} {a : Act} {w : World} (h : Fits N w0 own σ u a w) : Fits N w (Own σ) σ u a w :=
  { h with ownsR := fun b _ _ _ _ hs => .inl ⟨b, hs⟩, ownsO := fun b _ _ _ hs => .inl ⟨b, hs⟩, os := rfl, tape := rfl, output := rfl, grown := Nat.le_refl _, frame := fun _ _ _ => rfl }
theorem RunsTo.here {P : Program} {N : Nat} {c : Code} {s s' : St} {e : Ex} (h : RunsTo P N c s e s') {σ : Nat → Option Nat} {a : Act} {w : World} (hh : Here N s σ a w) {Q : Exit → Act → World → Prop}
    (hQ : ∀ σ' a' w', Here N s' σ' a' w' → Le σ σ' → (∀ b, σ b = none → (b < s.lo ∨ s.hi ≤ b) → σ' b = none) → KeptBut (Own σ) w w' → Q e.to a' w') : c.wp P Q a w := by
  obtain ⟨⟨u, hf, hs⟩, hn⟩ := hh
  refine h w (Own σ) σ s.lo s.hi a w ⟨σ, u, hf, hs, hn, Le.refl σ, fun b hb _ => hb, Nat.le_refl _, Nat.le_refl _⟩ Q fun a' w' hst => ?_
  obtain ⟨σ', u', hf', hs', hn', hl, ho, _, _⟩ := hst
  exact hQ σ' a' w' ⟨⟨u', hf'.rebase, hs'⟩, hn'⟩ hl ho ⟨hf'.os, hf'.tape, hf'.output, hf'.grown, hf'.frame⟩
/-- A function's begin, with arguments as they stand. -/
theorem Here.start {N : Nat} (vals : List Value) (w : World) (lo hi step : Nat) (hN : vals.length ≤ N) :
    Here N ⟨vals.map .val ++ List.replicate (N - vals.length) (.val undef), [], lo, hi, step, []⟩ (fun _ => none) { tmps := List.toArray vals ++ Array.replicate (N - (List.toArray vals).size) undef, defers := [] } w := by
  have hargsR : Rels (fun _ => none) (vals.map .val ++ List.replicate (N - vals.length) (.val undef)) (vals ++ List.replicate (N - vals.length) undef) := Rels.append (Rels.vals vals) (Rels.undefs _ _)
  refine ⟨⟨St.u ⟨vals.map .val ++ List.replicate (N - vals.length) (.val undef), [], lo, hi, step, []⟩, ⟨rfl, by simp; omega, fun t v hv => ?_, fun b e cs hb => ?_, fun b o hb => ?_, (fun _ _ _ h => by cases h), (fun _ _ h => by cases h), (fun _ _ _ _ _ h => by cases h), (fun _ _ _ _ h => by cases h), rfl, rfl, rfl, Nat.le_refl _, fun _ _ _ => rfl⟩, Sub.refl _⟩, fun _ _ _ => rfl⟩
  · simp only [St.u, stU, Option.map_eq_some_iff, Con.av.injEq] at hv
    obtain ⟨x, hx, rfl⟩ := hv
    obtain ⟨y, hy, hrel⟩ := Rels.get hargsR hx
    refine ⟨y, ?_, hrel⟩
    rw [← hy]
    have : (List.toArray vals ++ Array.replicate (N - (List.toArray vals).size) undef) = List.toArray (vals ++ List.replicate (N - vals.length) undef) := by
      apply Array.toList_inj.1; simp
    simp only [this, List.getElem?_toArray]
  · simp [St.u, stU, hget] at hb
  · simp [St.u, stU, hget] at hb
/-- A function's end. -/
theorem Here.results {P : Program} {fn : Func} {N : Nat} {s : St} {σ : Nat → Option Nat} {a : Act} {w : World} (h : Here N s σ a w) {as : List AV} (hr : resA P s fn.results.toList = some as) :
    ∃ v, (results fn a.tmps).run P w = .ok v w ∧ Rel σ (pack as) v ∧ a.defers = [] := by
  obtain ⟨⟨u, hf, hs⟩, _⟩ := h
  obtain ⟨v, h1, h2⟩ := run_results hf hs hr
  exact ⟨v, h1, h2, hf.defers⟩
theorem Here.tmp {N : Nat} {s : St} {σ : Nat → Option Nat} {a : Act} {w : World} (h : Here N s σ a w) {t : Nat} {v : AV} (ht : s.tmps[t]? = some v) : ∃ x, a.tmps[t]? = some x ∧ Rel σ v x := by
  obtain ⟨⟨u, hf, hs⟩, _⟩ := h
  exact hf.tmp t v (hs _ _ (by simp [St.u, stU, ht]))
/-- What the call must not touch, as it was. -/
structure Keep (F : Nat → Prop) (w0 w : World) : Prop where
  os : w.os = w0.os
  tape : w.tape = w0.tape
  output : w.output = w0.output
  grown : w0.heap.size ≤ w.heap.size
  frame : ∀ k, F k → k < w0.heap.size ∧ w.heap[k]? = w0.heap[k]?
theorem Keep.below {w w' : World} (h : Keep (fun k => k < w.heap.size) w w') : RowKit.Below w.heap.size w w' := ⟨h.os, h.tape, h.output, h.grown, fun k hk => (h.frame k hk).2⟩
theorem Keep.refl {F : Nat → Prop} {w : World} (h : ∀ k, F k → k < w.heap.size) : Keep F w w := ⟨rfl, rfl, rfl, Nat.le_refl _, fun k hk => ⟨h k hk, rfl⟩⟩
theorem Keep.trans {F G : Nat → Prop} {w0 w1 w2 : World} (h : Keep F w0 w1) (k : Keep G w1 w2) (hFG : ∀ x, F x → G x) : Keep F w0 w2 :=
  ⟨k.os.trans h.os, k.tape.trans h.tape, k.output.trans h.output, Nat.le_trans h.grown k.grown, fun x hx => ⟨(h.frame x hx).1, (k.frame x (hFG x hx)).2.trans (h.frame x hx).2⟩⟩
theorem Keep.lt {F : Nat → Prop} {w0 w : World} (h : Keep F w0 w) {k : Nat} (hk : F k) : k < w.heap.size := Nat.lt_of_lt_of_le (h.frame k hk).1 h.grown
theorem Keep.step {F : Nat → Prop} {w0 w w' : World} {own : Nat → Prop} (h : Keep F w0 w) (hm : ∀ r, own r → ¬ F r) (k : KeptBut own w w') : Keep F w0 w' :=
  ⟨k.os.trans h.os, k.tape.trans h.tape, k.output.trans h.output, Nat.le_trans h.grown k.grown, fun x hx => ⟨(h.frame x hx).1, (k.frame x (h.lt hx) (fun ho => hm x ho hx)).trans (h.frame x hx).2⟩⟩
/-- Each name that is told of is a block's that is told. -/
def okNamed (s : St) : Bool := (s.tmps.all fun a => (names a).all fun b => (hget s.heap b).isSome) && (noAv s.heap && s.heap.all fun p => (conNames p.2).all fun b => (hget s.heap b).isSome)
def pruneσ (σ : Nat → Option Nat) (H : Hp) : Nat → Option Nat := fun b => if (hget H b).isSome then σ b else none
theorem prune_some {σ : Nat → Option Nat} {H : Hp} {b r : Nat} (h : pruneσ σ H b = some r) : σ b = some r ∧ (hget H b).isSome := by
  unfold pruneσ at h
  split at h
  · rename_i h1; exact ⟨h, h1⟩
  · cases h
theorem prune_on {σ : Nat → Option Nat} {H : Hp} {b : Nat} (h : (hget H b).isSome) : pruneσ σ H b = σ b := by unfold pruneσ; rw [if_pos h]
mutual
theorem Rel.prune {σ : Nat → Option Nat} {H : Hp} : ∀ (a : AV) (v : Value), (∀ b ∈ names a, (hget H b).isSome) → Rel σ a v → Rel (pruneσ σ H) a v
  | .val _, _, _, k => by simpa only [Rel] using k
  | .ptr b _, _, hc, k => by simp only [Rel] at k ⊢; rw [prune_on (hc b (by simp [names]))]; exact k
  | .slice b _ _ _, _, hc, k => by simp only [Rel] at k ⊢; rw [prune_on (hc b (by simp [names]))]; exact k
  | .agg cs, _, hc, k => by simp only [Rel] at k ⊢; obtain ⟨r, h1, h2⟩ := k; exact ⟨r, h1, Rels.prune cs _ (fun b hb => hc b (by simpa [names] using hb)) h2⟩
  | .tuple cs, _, hc, k => by simp only [Rel] at k ⊢; obtain ⟨r, h1, h2⟩ := k; exact ⟨r, h1, Rels.prune cs _ (fun b hb => hc b (by simpa [names] using hb)) h2⟩
  | .func _ a b, _, hc, k => by
    simp only [Rel] at k ⊢
    obtain ⟨x, y, h1, h2, h3⟩ := k
    exact ⟨x, y, h1, Rels.prune a _ (fun d hd => hc d (by simp [names, hd])) h2, Rels.prune b _ (fun d hd => hc d (by simp [names, hd])) h3⟩
  | .map b, _, hc, k => by simp only [Rel] at k ⊢; rw [prune_on (hc b (by simp [names]))]; exact k
  | .any, _, _, _ => by simp only [Rel]
theorem Rels.prune {σ : Nat → Option Nat} {H : Hp} : ∀ (a : List AV) (v : List Value), (∀ b ∈ namesL a, (hget H b).isSome) → Rels σ a v → Rels (pruneσ σ H) a v
  | [], _, _, k => by simpa only [Rels] using k
  | a :: as, _, hc, k => by
    simp only [Rels] at k ⊢
    obtain ⟨x, xs, h1, h2, h3⟩ := k
    exact ⟨x, xs, h1, Rel.prune a x (fun b hb => hc b (by simp [namesL, hb])) h2, Rels.prune as xs (fun b hb => hc b (by simp [namesL, hb])) h3⟩
end
/-- The frame stands so, and what it must not touch is as it was. -/
def Stand (F : Nat → Prop) (w0 : World) (N : Nat) (s : St) (a : Act) (w : World) : Prop := ∃ σ, Here N s σ a w ∧ Keep F w0 w ∧ ∀ b r, σ b = some r → ¬ F r
theorem stand_of {F : Nat → Prop} {w0 : World} {N : Nat} {s : St} {σ σ' : Nat → Option Nat} {u' : U} {a' : Act} {w w' : World} (hk : Keep F w0 w) (hF : ∀ b r, σ b = some r → ¬ F r) (hf : Fits N w (Own σ) σ' u' a' w') (hs : Sub s.u u') (hn : ∀ b, s.lo ≤ b → b < s.hi → σ' b = none) (hok : okNamed s = true) :
    Stand F w0 N s a' w' := by
  have hw := hf.sub hs
  simp only [okNamed, Bool.and_eq_true, List.all_eq_true] at hok
  obtain ⟨hct, hno, hch⟩ := hok
  have hkept : KeptBut (Own σ) w w' := ⟨hf.os, hf.tape, hf.output, hf.grown, hf.frame⟩
  have hK : Keep F w0 w' := hk.step (fun r ⟨b, hb⟩ => hF b r hb) hkept
  refine ⟨pruneσ σ' s.heap, ⟨⟨s.u, ?_, fun l c h => h⟩, fun b h1 h2 => ?_⟩, hK, fun b r hb => ?_⟩
  · refine { hw with tmp := fun t v hv => ?_, row := fun b e cs hb => ?_, obj := fun b o hb => ?_, inj := fun b b' r h1 h2 => hw.inj b b' r (prune_some h1).1 (prune_some h2).1, bound := fun b r hb => hw.bound b r (prune_some hb).1, ownsR := fun b _ _ _ _ hr => .inl ⟨b, hr⟩, ownsO := fun b _ _ _ hr => .inl ⟨b, hr⟩, os := rfl, tape := rfl, output := rfl, grown := Nat.le_refl _, frame := fun _ _ _ => rfl }
    · obtain ⟨x, h3, h4⟩ := hw.tmp t v hv
      simp only [St.u, stU, Option.map_eq_some_iff] at hv
      obtain ⟨y, hy, e⟩ := hv
      cases e
      exact ⟨x, h3, Rel.prune v x (fun b hb => hct v (List.mem_of_getElem? hy) b hb) h4⟩
    · obtain ⟨r, vs, h3, h4, h5⟩ := hw.row b e cs hb
      have hm : hget s.heap b = some (.row e cs) := hb
      refine ⟨r, vs, by rw [prune_on (by rw [hm]; rfl)]; exact h3, h4, Rels.prune cs vs (fun d hd => ?_) h5⟩
      have hmem : ∀ (L : Hp), hget L b = some (.row e cs) → (b, Con.row e cs) ∈ L := by
        intro L
        induction L with
        | nil => intro h; simp [hget] at h
        | cons p L ih =>
          intro h
          obtain ⟨b', c'⟩ := p
          simp only [hget] at h
          split at h
          · rename_i e'
            cases h
            rw [Nat.eq_of_beq_eq_true e']
            simp
          · exact List.mem_cons_of_mem _ (ih h)
      exact hch _ (hmem _ hm) d hd
    · obtain ⟨r, o', h3, h4, h5⟩ := hw.obj b o hb
      have hm : hget s.heap b = some (.obj o) := hb
      exact ⟨r, o', by rw [prune_on (by rw [hm]; rfl)]; exact h3, h4, h5⟩
  · unfold pruneσ
    split
    · exact hn b h1 h2
    · rfl
  · obtain ⟨h1, h2⟩ := prune_some hb
    have key : Own σ r ∨ w.heap.size ≤ r := by
      obtain ⟨c, hc⟩ := Option.isSome_iff_exists.1 h2
      cases c with
      | row e cs => exact hw.ownsR b e cs r hc h1
      | obj o => exact hw.ownsO b o r hc h1
      | av v => exact absurd hc (noAv_spec hno b v)
    rcases key with ⟨b', hb'⟩ | h3
    · exact hF b' r hb'
    · intro hFr
      have := hk.lt hFr
      omega
/-- A piece of code that the interpreter runs. -/
theorem RunsTo.stand {P : Program} {N : Nat} {c : Code} {s s' : St} {e : Ex} (h : RunsTo P N c s e s') (hok : okNamed s' = true) {F : Nat → Prop} {w0 : World} {a : Act} {w : World} (hh : Stand F w0 N s a w) {Q : Exit → Act → World → Prop}
    (hQ : ∀ a' w', Stand F w0 N s' a' w' → Q e.to a' w') : c.wp P Q a w := by
  obtain ⟨σ, ⟨⟨u, hf, hs⟩, hn⟩, hk, hF⟩ := hh
  refine h w (Own σ) σ s.lo s.hi a w ⟨σ, u, hf, hs, hn, Le.refl σ, fun b hb _ => hb, Nat.le_refl _, Nat.le_refl _⟩ Q fun a' w' hst => ?_
  obtain ⟨σ', u', hf', hs', hn', _, _, _, _⟩ := hst
  exact hQ a' w' (stand_of hk hF hf' hs' hn' hok)
theorem Stand.start {N : Nat} (vals : List Value) (w : World) (lo hi step : Nat) (hN : vals.length ≤ N) :
    Stand (fun k => k < w.heap.size) w N ⟨vals.map .val ++ List.replicate (N - vals.length) (.val undef), [], lo, hi, step, []⟩ { tmps := List.toArray vals ++ Array.replicate (N - (List.toArray vals).size) undef, defers := [] } w :=
  ⟨_, Here.start vals w lo hi step hN, Keep.refl fun _ h => h, fun _ _ h => by cases h⟩
theorem Stand.results {P : Program} {fn : Func} {F : Nat → Prop} {w0 : World} {N : Nat} {s : St} {a : Act} {w : World} (h : Stand F w0 N s a w) {v : Value} (hr : resA P s fn.results.toList = some [.val v]) :
    (Go.results fn a.tmps).run P w = .ok v w ∧ a.defers = [] ∧ Keep F w0 w := by
  obtain ⟨σ, h1, h2, _⟩ := h
  obtain ⟨x, h3, h4, h5⟩ := h1.results hr
  simp only [pack, Rel] at h4
  subst h4
  exact ⟨h3, h5, h2⟩
/-- What is known less. -/
theorem Stand.weak {F : Nat → Prop} {w0 : World} {N : Nat} {s s' : St} {a : Act} {w : World} (h : Stand F w0 N s a w) (hw : Wk s'.u s.u) (hlo : s.lo ≤ s'.lo) (hhi : s'.hi ≤ s.hi) : Stand F w0 N s' a w := by
  obtain ⟨σ, ⟨⟨u, hf, hs⟩, hn⟩, hk, hF⟩ := h
  exact ⟨σ, ⟨⟨s'.u, (hf.sub hs).weak hw, Sub.refl _⟩, fun b h1 h2 => hn b (by omega) (by omega)⟩, hk, hF⟩
end Go.Ab
/- An argument that is a slice of plain data: its elements' cells. -/
namespace Go.Ab
open Go Go.ChangeShapes Go.WideShapes
section
variable {H : Type} {enc : TypeId × Value → H} {P : Program} {W : World} {spare : Nat → Bool} {held : Bool}
/-- A slice of plain data in memory. -/
def RowsAt (W : World) (ks : List Leaf) (a : Option Addr) (len cap : Nat) : Prop :=
  len ≤ cap ∧ cap ≤ maxLen ∧ (len = 0 ∨ ∃ a', a = some a' ∧ ∀ i, i < len → ∃ cs, Leafs ks cs ∧ W.cells? 0 (a'.add (i * ks.length)) ks.length = some cs)
theorem open_rows {n : Nat} {r : Reach} {b0 : Nat} {t e : TypeId} {v : Value} {d : DataW H} {ps : List MemPlace} {ks : List Leaf} (ht : P.underlying t = some (.slice e)) (hs : shape P n e = some ks) (hk : P.cellsOf e = ks.length)
    (hv : Value.okWide P W r b0 t v) (h : DataW.Trod enc P W 0 spare held t v d ps) :
    ∃ (a : Option Addr) (len cap : Nat), v = .slice a len cap ∧ (∀ x ∈ ps, x.block < W.heap.size) ∧ RowsAt W ks a len cap := by
  obtain ⟨a, len, cap, rfl⟩ := okWide_slice ht hv
  obtain ⟨fuel, hf⟩ := h
  have hlt := DataW.trod_lt fuel t _ _ hf
  rcases Go.Deep.open_slice ht hf with ⟨hcs, _⟩ | ⟨a', len', cap', m, n', D, Pl, hcs, _, hl, hm, hmm, _, hi⟩
  · simp [Value.cells] at hcs
    obtain ⟨rfl, rfl, rfl⟩ := hcs
    exact ⟨none, 0, 0, rfl, hlt, Nat.le_refl _, Nat.zero_le _, .inl rfl⟩
  · simp [Value.cells] at hcs
    obtain ⟨rfl, rfl, rfl⟩ := hcs
    refine ⟨some a', len, cap, rfl, hlt, hl, hm, .inr ⟨a', rfl, fun i hil => ?_⟩⟩
    have him : i < m := by rw [hmm]; split <;> omega
    obtain ⟨cs', h1, h2⟩ := hi i him
    rw [hk] at h1
    exact ⟨cs', (shape_spec n n' e ks cs' _ _ hs h2).1, h1⟩
end
/-- The cells of foreign memory, read later on. -/
theorem cells_old {F : Nat → Prop} {w0 w : World} (h : Keep F w0 w) {a : Addr} (hF : F a.block) {n : Nat} {cs : List Value} (hc : w0.cells? 0 a n = some cs) : w.cells? 0 a n = some cs := by
  by_cases hn : n = 0
  · subst hn
    simpa [World.cells?] using hc
  · have e : ∀ i, w.cell? (a.add i) = w0.cell? (a.add i) := by
      intro i
      have hb2 : (a.add i).block = a.block := by unfold Addr.add; split <;> rfl
      simp only [World.cell?, hb2, (h.frame _ hF).2]
    unfold World.cells? at hc ⊢
    simpa only [e] using hc
end Go.Ab
/- Regions by pieces: operations that the interpreter runs, and single ones by hand. -/
namespace Go.Ab
open Go
section
variable {P : Program} {N : Nat} {ops : Array Oper} {Q : Exit → Act → World → Prop} {w0 : World} {own : Nat → Prop}
theorem chain_rest : ∀ (items : List It) (rest : List Nat) (u u' : U) (σ : Nat → Option Nat) (a : Act) (w : World), Chain P N ops items u u' → Fits N w0 own σ u a w → Fresh items σ → items.Pairwise Apart →
    (∀ σ' a' w', Le σ σ' → Out items σ σ' → Fits N w0 own σ' u' a' w' → wpOps P ops Q rest a' w') → wpOps P ops Q (items.map (·.i) ++ rest) a w
  | [], rest, u, u', σ, a, w, hc, hf, _, _, hQ => by
    simp only [Chain] at hc
    subst hc
    exact hQ σ a w (Le.refl σ) (fun _ h _ => h) hf
  | it :: r, rest, u, u', σ, a, w, hc, hf, hn, hp, hQ => by
    obtain ⟨h1, h2, h3⟩ := hc
    simp only [List.map_cons, List.cons_append, wpOps_cons]
    rw [List.pairwise_cons] at hp
    refine h2 Q w0 own σ u a w hf h1 (hn it (List.mem_cons_self ..)) _ fun σ' a' w' hle hout hf' => ?_
    refine chain_rest r rest _ u' σ' a' w' h3 hf' (fun x hx b hb1 hb2 => ?_) hp.2 fun σ'' a'' w'' hle' hout' hf'' => ?_
    · refine hout b (hn x (List.mem_cons_of_mem _ hx) b hb1 hb2) ?_
      rcases hp.1 x hx with h | h <;> omega
    · refine hQ σ'' a'' w'' (hle.trans hle') (fun b hb hb' => ?_) hf''
      exact hout' b (hout b hb (hb' it (List.mem_cons_self ..))) fun x hx => hb' x (List.mem_cons_of_mem _ hx)
theorem opsRun_stand {β : Type} {call : CallR β} {qf : FuncId → Bool} (hcall : CallOk P call) {l : List Oper} {k : Nat} {s : St} {K : St → List Foot → Option β} {res : β} (h : opsRun P call qf N ops l s [] K = some res) (hl : ∀ j o, l[j]? = some o → ops[k + j]? = some o)
    {F : Nat → Prop} {w0 : World} {a : Act} {w : World} (hh : Stand F w0 N s a w) (rest : List Nat) {s1 : St} (hok : okNamed s1 = true) (hroom : ∀ s' feet, K s' feet = some res → (s'.lo ≤ s'.hi ∨ s'.lo = s.lo) ∧ Wk s1.u s'.u ∧ s'.lo ≤ s1.lo ∧ s1.hi ≤ s'.hi)
    (hK : ∀ a' w', Stand F w0 N s1 a' w' → wpOps P ops Q rest a' w') : wpOps P ops Q ((List.range l.length).map (k + ·) ++ rest) a w := by
  obtain ⟨items, s', h1, h2, h3, h4, h5, h6, _, _⟩ := opsRun_sound hcall l k s [] h hl
  obtain ⟨σ, ⟨⟨u, hf, hs⟩, hn⟩, hk, hF⟩ := hh
  obtain ⟨u', hc, hs'⟩ := h2 u hs
  have hb := h5.bounds
  obtain ⟨hrm, hwk, hlo, hhi⟩ := hroom s' _ h1
  have hix : items.map (·.i) = (List.range l.length).map (k + ·) := by
    apply List.ext_getElem
    · simp [h3]
    · intro j hj1 hj2
      simp only [List.getElem_map, List.getElem_range]
      exact h4 j _ (List.getElem?_eq_getElem (by simpa using hj1))
  rw [← hix]
  have hfresh : Fresh items σ := by
    intro it hit b hb1 hb2
    have := hb.2 it hit
    exact hn b (by omega) (by omega)
  refine chain_rest items rest u u' σ a w hc hf hfresh h5.apart fun σ' a' w' hle hout hf' => ?_
  refine hK a' w' (stand_of hk hF ((hf'.sub hs').weak hwk) (Sub.refl _) (fun b hb1 hb2 => ?_) hok)
  refine hout b (hn b (by omega) (by omega)) fun it hit => ?_
  have := hb.2 it hit
  omega
/-- One operation by hand, that gives a value and leaves the world. -/
theorem op_stand {k d : Nat} {o : Oper} (ho : ops[k]? = some o) (hg : o.guard = none) (hd : o.dst = some d) (hdN : d < N) {s : St} (hlen : s.tmps.length = N) {F : Nat → Prop} {w0 : World} {a : Act} {w : World} (hh : Stand F w0 N s a w) {v : Value}
    (hrun : (execOp a.eval o).run P w = .ok (.value v) w) (rest : List Nat) (hK : ∀ a', Stand F w0 N { s with tmps := s.tmps.set d (.val v) } a' w → wpOps P ops Q rest a' w) : wpOps P ops Q (k :: rest) a w := by
  rw [wpOps_cons]
  unfold wpOp
  rw [ho]
  simp only
  rw [if_pos (by simp [Region.wanted, hg])]
  refine .inl ?_
  unfold Oper.wp
  rw [hrun, Oper.upon_value, hd]
  refine hK _ ?_
  obtain ⟨σ, ⟨⟨u, hf, hs⟩, hn⟩, hk, hF⟩ := hh
  refine ⟨σ, ⟨⟨upd1 u (.tmp d) (.av (.val v)), hf.put hdN (by simp only [Rel]), fun l c h => ?_⟩, hn⟩, hk, hF⟩
  cases l with
  | blk b => simpa [upd1] using hs (.blk b) c h
  | tmp t =>
    by_cases e : t = d
    · subst e
      simp only [St.u, stU, List.getElem?_set_self (by omega : t < s.tmps.length), Option.map_some, Option.some.injEq] at h
      subst h
      simp [upd1]
    · simp only [St.u, stU, List.getElem?_set_ne (Ne.symm e)] at h
      have : upd1 u (.tmp d) (.av (.val v)) (.tmp t) = u (.tmp t) := by simp [upd1, e]
      rw [this]
      exact hs _ _ h
end
theorem Stand.eval {F : Nat → Prop} {w0 : World} {N : Nat} {s : St} {a : Act} {w : World} (h : Stand F w0 N s a w) {t : Nat} {v : Value} (ht : s.tmps[t]? = some (.val v)) : a.eval (.tmp t) = v := by
  obtain ⟨σ, h1, _⟩ := h
  obtain ⟨x, h1, h2⟩ := h1.tmp ht
  simp only [Rel] at h2
  subst h2
  simp [Act.eval, h1]
theorem Stand.keep {F : Nat → Prop} {w0 : World} {N : Nat} {s : St} {a : Act} {w : World} (h : Stand F w0 N s a w) : Keep F w0 w := by obtain ⟨_, _, h, _⟩ := h; exact h
theorem run_loadFrom {P : Program} {w : World} {a : Addr} : ∀ (n i : Nat) (cs : List Value) (acc : Array Value), cs.length = n → (∀ j c, cs[j]? = some c → w.cell? (a.add (i + j)) = some c) → (loadCellsFrom a i n acc).run P w = .ok (acc ++ List.toArray cs) w
  | 0, i, cs, acc, hl, _ => by
    cases cs with
    | nil => simp [loadCellsFrom]
    | cons c r => simp at hl
  | n + 1, i, [], acc, hl, _ => by simp at hl
  | n + 1, i, c :: r, acc, hl, hc => by
    have h0 : w.cell? (a.add i) = some c := by simpa using hc 0 c rfl
    have ih := run_loadFrom (P := P) (w := w) (a := a) n (i + 1) r (acc.push c) (by simpa using hl) fun j d hj => by
      have := hc (j + 1) d (by simpa using hj)
      rwa [show i + (j + 1) = i + 1 + j by omega] at this
    simp only [loadCellsFrom, Sem.run_bind, run_load, h0, Result.andThen_ok, ih]
    simp
/-- A struct or array out of foreign memory. -/
theorem run_loadForeign {P : Program} {w : World} {t : TypeId} {d : TypeDesc} {i : TypeInfo} {a : Addr} {cs : List Value} (hd : P.underlying t = some d) (hagg : isAggD d = true) (hi : P.info? t = some i) (hc : w.cells? 0 a i.size = some cs) :
    (loadVar t a).run P w = .ok (.agg (List.toArray cs)) w := by
  obtain ⟨_, hl, hat⟩ := World.cells?_some hc
  unfold loadVar
  rw [Sem.run_bind, run_isAgg hd w, hagg]
  simp only [Result.andThen_ok, if_true, Sem.run_bind, run_sizeOf hi w]
  have := run_loadFrom (P := P) (w := w) (a := a) i.size 0 cs #[] (by omega) fun j c hj => by
    have hjl : j < i.size := by have := (List.getElem?_eq_some_iff.1 hj).1; omega
    rw [Nat.zero_add, hat j hjl, hj]
  unfold loadCells
  rw [this]
  simp
end Go.Ab
namespace Go.Ab
/-! ### loops whose rounds make blocks of their own: behind a round these are forgotten -/
def cleanB (lo hi b : Nat) : Prop := ¬ (lo ≤ b ∧ b < hi)
def cutσ (σ : Nat → Option Nat) (lo hi : Nat) : Nat → Option Nat := fun b => if lo ≤ b ∧ b < hi then none else σ b
theorem cutσ_some {σ : Nat → Option Nat} {lo hi b r : Nat} (h : cutσ σ lo hi b = some r) : σ b = some r := by
  unfold cutσ at h
  split at h
  · cases h
  · exact h
theorem cutσ_clean {σ : Nat → Option Nat} {lo hi b : Nat} (h : cleanB lo hi b) : cutσ σ lo hi b = σ b := by
  unfold cutσ
  rw [if_neg h]
mutual
theorem Rel.cut {σ : Nat → Option Nat} {lo hi : Nat} : ∀ (a : AV) (v : Value), (∀ b ∈ names a, cleanB lo hi b) → Rel σ a v → Rel (cutσ σ lo hi) a v
  | .val _, _, _, k => by simpa only [Rel] using k
  | .ptr b _, _, hc, k => by simp only [Rel] at k ⊢; rw [cutσ_clean (hc b (by simp [names]))]; exact k
  | .slice b _ _ _, _, hc, k => by simp only [Rel] at k ⊢; rw [cutσ_clean (hc b (by simp [names]))]; exact k
  | .agg cs, _, hc, k => by simp only [Rel] at k ⊢; obtain ⟨r, h1, h2⟩ := k; exact ⟨r, h1, Rels.cut cs _ (fun b hb => hc b (by simpa [names] using hb)) h2⟩
  | .tuple cs, _, hc, k => by simp only [Rel] at k ⊢; obtain ⟨r, h1, h2⟩ := k; exact ⟨r, h1, Rels.cut cs _ (fun b hb => hc b (by simpa [names] using hb)) h2⟩
  | .func _ a b, _, hc, k => by
    simp only [Rel] at k ⊢
    obtain ⟨x, y, h1, h2, h3⟩ := k
    exact ⟨x, y, h1, Rels.cut a _ (fun d hd => hc d (by simp [names, hd])) h2, Rels.cut b _ (fun d hd => hc d (by simp [names, hd])) h3⟩
  | .map b, _, hc, k => by simp only [Rel] at k ⊢; rw [cutσ_clean (hc b (by simp [names]))]; exact k
  | .any, _, _, _ => by simp only [Rel]
theorem Rels.cut {σ : Nat → Option Nat} {lo hi : Nat} : ∀ (a : List AV) (v : List Value), (∀ b ∈ namesL a, cleanB lo hi b) → Rels σ a v → Rels (cutσ σ lo hi) a v
  | [], _, _, k => by simpa only [Rels] using k
  | a :: as, _, hc, k => by
    simp only [Rels] at k ⊢
    obtain ⟨x, xs, h1, h2, h3⟩ := k
    exact ⟨x, xs, h1, Rel.cut a x (fun b hb => hc b (by simp [namesL, hb])) h2, Rels.cut as xs (fun b hb => hc b (by simp [namesL, hb])) h3⟩
end
mutual
theorem Rel.clean {σ : Nat → Option Nat} {lo hi : Nat} (hn : ∀ b, lo ≤ b → b < hi → σ b = none) : ∀ (a : AV) (v : Value), Rel σ a v → ∀ b ∈ names a, cleanB lo hi b
  | .val _, _, _, b, hb => by simp [names] at hb
  | .ptr b _, _, k, d, hd => by
    simp only [names, List.mem_singleton] at hd; subst hd
    simp only [Rel] at k; obtain ⟨r, h1, _⟩ := k
    intro h; rw [hn d h.1 h.2] at h1; cases h1
  | .slice b _ _ _, _, k, d, hd => by
    simp only [names, List.mem_singleton] at hd; subst hd
    simp only [Rel] at k; obtain ⟨r, h1, _⟩ := k
    intro h; rw [hn d h.1 h.2] at h1; cases h1
  | .agg cs, _, k, d, hd => by simp only [Rel] at k; obtain ⟨r, _, h2⟩ := k; exact Rels.clean hn cs _ h2 d (by simpa [names] using hd)
  | .tuple cs, _, k, d, hd => by simp only [Rel] at k; obtain ⟨r, _, h2⟩ := k; exact Rels.clean hn cs _ h2 d (by simpa [names] using hd)
  | .func _ a b, _, k, d, hd => by
    simp only [Rel] at k
    obtain ⟨x, y, _, h2, h3⟩ := k
    simp only [names, List.mem_append] at hd
    rcases hd with hd | hd
    · exact Rels.clean hn a _ h2 d hd
    · exact Rels.clean hn b _ h3 d hd
  | .map b, _, k, d, hd => by
    simp only [names, List.mem_singleton] at hd; subst hd
    simp only [Rel] at k; obtain ⟨r, h1, _⟩ := k
    intro h; rw [hn d h.1 h.2] at h1; cases h1
  | .any, _, _, d, hd => by simp [names] at hd
theorem Rels.clean {σ : Nat → Option Nat} {lo hi : Nat} (hn : ∀ b, lo ≤ b → b < hi → σ b = none) : ∀ (a : List AV) (v : List Value), Rels σ a v → ∀ b ∈ namesL a, cleanB lo hi b
  | [], _, _, d, hd => by simp [namesL] at hd
  | a :: as, _, k, d, hd => by
    simp only [Rels] at k
    obtain ⟨x, xs, _, h2, h3⟩ := k
    simp only [namesL, List.mem_append] at hd
    rcases hd with hd | hd
    · exact Rel.clean hn a x h2 d hd
    · exact Rels.clean hn as xs h3 d hd
end
def gcSt (lo : Nat) (keep : List Nat) (s : St) : St := { s with heap := subheap s.heap keep, lo := lo }
def CleanC (lo hi : Nat) : Con → Prop
  | .av a => ∀ b ∈ names a, cleanB lo hi b
  | .row _ cs => ∀ b ∈ namesL cs, cleanB lo hi b
  | .obj _ => True
theorem gcSt_sub (lo : Nat) (keep : List Nat) (s : St) : Sub (gcSt lo keep s).u s.u := by
  intro l c h
  cases l with
  | blk b => exact hget_subheap (l := keep) h
  | tmp t => exact h
theorem runs_gc {P : Program} {call : CallP} (hcall : ∀ β, CallOk P (call β)) {N F : Nat} {wy : Way} {c : Code} {s s2 : St} {e : Ex} (G keep : List Nat)
    (h : run P call N wy [] F (Ex × St) c s (fun e s' => some (e, gcSt s.lo keep (maskSt G s'))) = some (e, s2)) (hhi : s2.hi = s.hi)
    (hblk : ∀ b c, s2.u (.blk b) = some c → cleanB s.lo s.hi b)
    (hclean : ∀ σ, (∀ t v, s.u (.tmp t) = some (.av v) → ∃ x, Rel σ v x) → (∀ b, s.lo ≤ b → b < s.hi → σ b = none) → ∀ l c, s2.u l = some c → CleanC s.lo s.hi c) : RunsTo P N c s e s2 := by
  obtain ⟨e', s', h1, h2, _⟩ := (run_sound hcall F).1 (Ex × St) (e, s2) c s _ (HFit.nil c) h
  simp only [Option.some.injEq, Prod.mk.injEq] at h1
  obtain ⟨rfl, rfl⟩ := h1
  intro w0 own σ0 lo0 hi0 a w hst Q hQ
  refine h2 w0 own σ0 lo0 hi0 a w hst Q fun a' w' hst' => hQ a' w' ?_
  obtain ⟨σs, us, hfs, hss, hns, hls, hos, hlos, his⟩ := hst
  obtain ⟨σ, u, hf, hs, hn, hl, ho, hlo, hi⟩ := hst'
  have hcl := hclean σs (fun t v hv => by obtain ⟨x, _, h4⟩ := hfs.tmp t v (hss _ _ hv); exact ⟨x, h4⟩) hns
  have hw : Fits N w0 own σ (gcSt s.lo keep (maskSt G s')).u a' w' := ((hf.sub hs).weak (maskSt_wk G s')).sub (gcSt_sub s.lo keep (maskSt G s'))
  have hnone : ∀ b, s.lo ≤ b → b < s.hi → σ0 b = none := by
    intro b hb1 hb2
    cases h0 : σ0 b with
    | none => rfl
    | some r => have := hls b r h0; rw [hns b hb1 hb2] at this; cases this
  refine ⟨cutσ σ s.lo s.hi, (gcSt s.lo keep (maskSt G s')).u, ?_, Sub.refl _, fun b hb1 hb2 => ?_, fun b r hb => ?_, fun b hb1 hb2 => ?_, hlos, ?_⟩
  · refine { hw with tmp := fun t v hv => ?_, row := fun b e cs hb => ?_, obj := fun b o hb => ?_, inj := fun b b' r h1 h2 => hw.inj b b' r (cutσ_some h1) (cutσ_some h2), bound := fun b r hb => hw.bound b r (cutσ_some hb), ownsR := fun b e cs r hb hr => hw.ownsR b e cs r hb (cutσ_some hr), ownsO := fun b o r hb hr => hw.ownsO b o r hb (cutσ_some hr) }
    · obtain ⟨x, h3, h4⟩ := hw.tmp t v hv
      exact ⟨x, h3, Rel.cut v x (hcl _ _ hv) h4⟩
    · obtain ⟨r, vs, h3, h4, h5⟩ := hw.row b e cs hb
      exact ⟨r, vs, by rw [cutσ_clean (hblk b _ hb)]; exact h3, h4, Rels.cut cs vs (hcl _ _ hb) h5⟩
    · obtain ⟨r, o', h3, h4, h5⟩ := hw.obj b o hb
      exact ⟨r, o', by rw [cutσ_clean (hblk b _ hb)]; exact h3, h4, h5⟩
  · have hb2 : b < s.hi := by rw [← hhi]; exact hb2
    unfold cutσ
    rw [if_pos ⟨hb1, hb2⟩]
  · have hc : cleanB s.lo s.hi b := fun hc => by rw [hnone b hc.1 hc.2] at hb; cases hb
    rw [cutσ_clean hc]
    exact hl b r hb
  · have := ho b hb1 hb2
    unfold cutσ
    split
    · rfl
    · exact this
  · exact hi
def okNames (lo : Nat) (rows : RowsV) (fx : List (Nat × Nat × Nat)) : Bool := rows.all (fun p => Nat.blt p.1 lo) && fx.all (fun p => Nat.blt p.2.1 lo)
def lwHint (N : Nat) (sl : List Nat) (fx : List (Nat × Nat × Nat)) (G : List Nat) (rows : RowsV) (lo hi step : Nat) (pre : List Value → Bool) (post : List Value → List Value) (s : St) : HTr :=
  match rdV s.tmps sl, rdW rows s.heap, fxOk s.tmps fx, Nat.beq s.tmps.length N && (Nat.ble s.lo lo && (Nat.ble hi s.hi && okNames lo rows fx)) with
  | some xs, some ys, true, true => .test (pre (xs ++ ys)) (.ret ⟨ovL (lvTm sl fx G (post (xs ++ ys))) 0 s.tmps, wrW rows ((post (xs ++ ys)).drop sl.length), lo, hi, step, sl.map .tmp ++ (fx.map (fun p => .tmp p.1) ++ (G.map .tmp ++ (rows.map (fun p => .blk p.1) ++ s.log)))⟩) .no
  | _, _, _, _ => .no
theorem wrCs_val : ∀ {n : Nat} {xs : List Value} {l : List AV} {ys : List Value}, wrCs n xs = some (l, ys) → namesL l = []
  | 0, xs, l, ys, h => by simp only [wrCs, Option.some.injEq, Prod.mk.injEq] at h; rw [← h.1]; rfl
  | n + 1, [], l, ys, h => by simp [wrCs] at h
  | n + 1, v :: vs, l, ys, h => by
    simp only [wrCs] at h
    split at h
    · rename_i l' r' h2
      simp only [Option.some.injEq, Prod.mk.injEq] at h
      rw [← h.1]
      simp [namesL, names, wrCs_val h2]
    · cases h
theorem wrW_names : ∀ {rows : RowsV} {xs : List Value} {b : Nat} {c : Con}, hget (wrW rows xs) b = some c → ∃ e cs, c = .row e cs ∧ namesL cs = []
  | [], xs, b, c, h => by simp [wrW, hget] at h
  | (b', e, n) :: r, xs, b, c, h => by
    simp only [wrW] at h
    split at h
    · rename_i cs ys hcs
      simp only [hget] at h
      split at h
      · cases h; exact ⟨e, cs, rfl, wrCs_val hcs⟩
      · exact wrW_names h
    · simp [hget] at h
theorem wrV_val : ∀ {sl : List Nat} {vs : List Value} {p : Nat × AV}, p ∈ wrV sl vs → names p.2 = []
  | [], vs, p, h => by simp [wrV] at h
  | t :: r, [], p, h => by simp [wrV] at h
  | t :: r, v :: vs, p, h => by
    simp only [wrV, List.mem_cons] at h
    rcases h with rfl | h
    · rfl
    · exact wrV_val h
theorem wrV_has : ∀ {sl : List Nat} {vs : List Value} {t : Nat}, t ∈ sl → sl.length ≤ vs.length → ∃ p ∈ wrV sl vs, p.1 = t
  | [], vs, t, h, _ => by cases h
  | a :: r, [], t, h, hl => by simp at hl
  | a :: r, v :: vs, t, h, hl => by
    rcases List.mem_cons.1 h with rfl | h
    · exact ⟨(t, .val v), by simp [wrV], rfl⟩
    · obtain ⟨p, h1, h2⟩ := wrV_has (vs := vs) h (by simp at hl; omega)
      exact ⟨p, by simp [wrV, h1], h2⟩
theorem lw_blk {N : Nat} {sl : List Nat} {fx : List (Nat × Nat × Nat)} {G : List Nat} {rows : RowsV} {lo hi step : Nat} {ys : List Value} {x : Nat → AV} (hnr : ∀ p ∈ rows, p.1 < lo) :
    ∀ b c, (lvSt N sl fx G rows ys x lo hi step).u (.blk b) = some c → cleanB lo hi b := by
  intro b c h
  obtain ⟨q, h1, rfl⟩ := wrW_has h
  have := hnr q h1
  intro h2
  omega
theorem lw_clean {N : Nat} {sl : List Nat} {fx : List (Nat × Nat × Nat)} {G : List Nat} {rows : RowsV} {lo hi step : Nat} {xs ys : List Value} {x : Nat → AV} (hnf : ∀ p ∈ fx, p.2.1 < lo) (hy : sl.length ≤ ys.length) :
    ∀ σ, (∀ t v, (lvSt N sl fx G rows xs x lo hi step).u (.tmp t) = some (.av v) → ∃ w, Rel σ v w) → (∀ b, lo ≤ b → b < hi → σ b = none) → ∀ l c, (lvSt N sl fx G rows ys x lo hi step).u l = some c → CleanC lo hi c := by
  intro σ hst hn l c h
  cases l with
  | blk b =>
    obtain ⟨e, cs, rfl, h2⟩ := wrW_names h
    intro d hd
    rw [h2] at hd
    cases hd
  | tmp t =>
    simp only [St.u, lvSt, stU, tmA_get] at h
    split at h
    · rename_i ht
      simp only [Option.map_some, Option.some.injEq] at h
      subst h
      intro d hd
      rcases ovA_cases (lvTm sl fx G ys) x t with ⟨p, h1, h2, h3⟩ | ⟨h1, h2⟩
      · rw [h3] at hd
        unfold lvTm at h1
        rcases List.mem_append.1 h1 with h1 | h1
        · rw [wrV_val h1] at hd; cases hd
        · rcases List.mem_append.1 h1 with h1 | h1
          · simp only [fxs, List.mem_map] at h1
            obtain ⟨q, h4, rfl⟩ := h1
            simp only [names, List.mem_singleton] at hd
            subst hd
            have := hnf q h4
            intro h5
            omega
          · simp only [anys, List.mem_map] at h1
            obtain ⟨g, _, rfl⟩ := h1
            simp [names] at hd
      · rw [h1] at hd
        have hu : (lvSt N sl fx G rows xs x lo hi step).u (.tmp t) = some (.av (x t)) := by
          simp only [St.u, lvSt, stU, tmA_get, if_pos ht, Option.map_some, Option.some.injEq, Con.av.injEq]
          rcases ovA_cases (lvTm sl fx G xs) x t with ⟨p, h4, h5, h6⟩ | ⟨h4, _⟩
          · exfalso
            unfold lvTm at h4
            rcases List.mem_append.1 h4 with h4 | h4
            · have h7 : t ∈ sl := by rw [← h5]; exact wrV_slot h4
              obtain ⟨p', h8, h9⟩ := wrV_has h7 hy
              exact h2 p' (by unfold lvTm; simp [h8]) h9
            · exact h2 p (by unfold lvTm; exact List.mem_append_right _ h4) h5
          · exact h4
        obtain ⟨w, hw⟩ := hst t _ hu
        exact Rel.clean hn _ _ hw d hd
    · simp at h
theorem lw_ok {P : Program} {call : CallP} (hcall : ∀ β, CallOk P (call β)) {N F id : Nat} {wy : Way} {body : Code} {sl : List Nat} {fx : List (Nat × Nat × Nat)} {G : List Nat} {rows : RowsV} {lo hi step : Nat} {pre : List Value → Bool} {post : List Value → List Value} (μ : List Value → Nat)
    (hstep : ∀ xs, xs.length = sl.length + rowLenV rows → pre xs = true → ∀ x,
      (∃ ys, ys.length = sl.length + rowLenV rows ∧ pre ys = true ∧ μ ys < μ xs ∧ post ys = post xs ∧ run P call N wy [] F (Ex × St) body (lvSt N sl fx G rows xs x lo hi step) (fun e s' => some (e, gcSt lo (rows.map (fun p => p.1)) (maskSt G s'))) = some (.normal, lvSt N sl fx G rows ys x lo hi step)) ∨
      ((post xs).length = sl.length + rowLenV rows ∧ run P call N wy [] F (Ex × St) body (lvSt N sl fx G rows xs x lo hi step) (fun e s' => some (e, gcSt lo (rows.map (fun p => p.1)) (maskSt G s'))) = some (.exit id, lvSt N sl fx G rows (post xs) x lo hi step))) :
    ∀ s s', (lwHint N sl fx G rows lo hi step pre post s).sel = some s' → RunsTo P N (.block id (.loop body)) s .normal s' ∧ LogOk s s' := by
  intro s s' hs
  unfold lwHint at hs
  split at hs
  · rename_i xs ys hxs hys hfx hNN
    simp only [Bool.and_eq_true] at hNN
    obtain ⟨hN, hlo, hhi, hnm⟩ := hNN
    have hN := Nat.eq_of_beq_eq_true hN
    have hlo := Nat.le_of_ble_eq_true hlo
    have hhi := Nat.le_of_ble_eq_true hhi
    simp only [okNames, Bool.and_eq_true, List.all_eq_true, Nat.blt_eq] at hnm
    obtain ⟨hnr, hnf⟩ := hnm
    simp only [HTr.sel] at hs
    cases hp : pre (xs ++ ys) with
    | false => rw [hp] at hs; cases hs
    | true =>
      rw [hp] at hs
      simp only [cond_true, Option.some.injEq] at hs
      subst hs
      have hlen := rdV_len hxs
      have hmem := wrV_more ys hxs
      obtain ⟨hlen2, hheap⟩ := rdW_wr hys
      have hfix := fxOk_mem hfx
      have hdrop : (xs ++ ys).drop (sl.length) = ys := by rw [← hlen]; simp
      let x : Nat → AV := fun i => s.tmps.getD i .any
      refine ⟨?_, ?_⟩
      · let ι := { xs : List Value // xs.length = sl.length + rowLenV rows ∧ pre xs = true }
        have hl := RunsTo.loop (P := P) (N := N) (c := body) (ι := ι) (fun i => lvSt N sl fx G rows i.1 x lo hi step) (fun i => μ i.1) (fun i => lvSt N sl fx G rows (post i.1) x lo hi step) (.exit id) (by
          intro ⟨xs, h1, h2⟩
          rcases hstep xs h1 h2 x with ⟨ys, k1, k2, k3, k4, k5⟩ | ⟨k0, k⟩
          · exact .inl ⟨⟨ys, k1, k2⟩, k3, by simp only [k4], runs_gc hcall G _ k5 rfl (lw_blk hnr) (lw_clean hnf (by rw [k1]; omega))⟩
          · exact .inr ⟨runs_gc hcall G _ k rfl (lw_blk hnr) (lw_clean hnf (by rw [k0]; omega)), by simp⟩) ⟨xs ++ ys, by simp [hlen, hlen2], hp⟩
        have hb := RunsTo.block hl (.inr rfl)
        refine (hb.weak_start (s0 := s) ?_ hlo hhi).weak_end ?_ (Nat.le_refl _) (Nat.le_refl _)
        · intro l c' h
          cases l with
          | blk b =>
            simp only [St.u, lvSt, stU, hdrop, hheap] at h
            exact ⟨c', h, WkC.refl c'⟩
          | tmp t =>
            simp only [St.u, lvSt, stU, tmA_get] at h
            split at h
            · rename_i ht
              simp only [Option.map_some, Option.some.injEq] at h
              have hst : s.tmps[t]? = some (x t) := by
                have : t < s.tmps.length := by omega
                simp [x, this]
              refine ⟨.av (x t), by simp [St.u, stU, hst], ?_⟩
              subst h
              rcases ovA_cases (lvTm sl fx G (xs ++ ys)) x t with ⟨p, h1, h2, h3⟩ | ⟨h1, _⟩
              · rw [h3]
                unfold lvTm at h1
                rcases List.mem_append.1 h1 with h1 | h1
                · have := hmem p h1
                  rw [h2, hst] at this
                  rw [← Option.some.inj this]
                  exact WkC.refl _
                · rcases List.mem_append.1 h1 with h1 | h1
                  · have := hfix p h1
                    rw [h2, hst] at this
                    rw [← Option.some.inj this]
                    exact WkC.refl _
                  · simp only [anys, List.mem_map] at h1
                    obtain ⟨g, _, rfl⟩ := h1
                    exact fun _ _ _ => by simp only [Rel]
              · rw [h1]; exact WkC.refl _
            · simp at h
        · intro l c' h
          refine ⟨c', ?_, WkC.refl c'⟩
          have e := ovL_tmA hN (lvTm sl fx G (post (xs ++ ys)))
          simpa only [St.u, lvSt, e] using h
      · refine ⟨fun l hl => by simp [hl], fun l hl => ?_⟩
        cases l with
        | blk b =>
          have hno : ∀ q ∈ rows, q.1 ≠ b := by
            intro q hq e
            apply hl
            simp only [List.mem_append, List.mem_map]
            exact .inr (.inr (.inr (.inl ⟨q, hq, by rw [e]⟩)))
          have h1 : ∀ zs, hget (wrW rows zs) b = none := by
            intro zs
            cases hz : hget (wrW rows zs) b with
            | none => rfl
            | some c => obtain ⟨q, h2, h3⟩ := wrW_has hz; exact absurd h3 (hno q h2)
          show hget (wrW rows _) b = hget s.heap b
          rw [h1, ← hheap, h1]
        | tmp t =>
          simp only [St.u, stU, ovL_get, Nat.zero_add]
          cases ht : s.tmps[t]? with
          | none => rfl
          | some a =>
            simp only [Option.map_some, Option.some.injEq, Con.av.injEq]
            rcases ovA_cases (lvTm sl fx G (post (xs ++ ys))) (fun _ => a) t with ⟨p, h1, h2, h3⟩ | ⟨h1, _⟩
            · exfalso
              apply hl
              simp only [List.mem_append, List.mem_map]
              unfold lvTm at h1
              rcases List.mem_append.1 h1 with h1 | h1
              · exact .inl ⟨p.1, wrV_slot h1, by rw [h2]⟩
              · rcases List.mem_append.1 h1 with h1 | h1
                · simp only [fxs, List.mem_map] at h1
                  obtain ⟨q, h4, rfl⟩ := h1
                  exact .inr (.inl ⟨q, h4, by rw [← h2]⟩)
                · simp only [anys, List.mem_map] at h1
                  obtain ⟨g, h4, rfl⟩ := h1
                  exact .inr (.inr (.inl ⟨g, h4, by rw [← h2]⟩))
            · exact h1
  · simp [HTr.sel] at hs
end Go.Ab
/- What a round has made is forgotten behind it. -/
namespace Go.Ab
open Go
def okClean (lo : Nat) (s : St) : Bool := (s.tmps.all fun a => (names a).all fun b => Nat.blt b lo) && s.heap.all fun p => Nat.blt p.1 lo && (conNames p.2).all fun b => Nat.blt b lo
theorem hget_mem : ∀ {H : Hp} {b : Nat} {c : Con}, hget H b = some c → (b, c) ∈ H
  | [], b, c, h => by simp [hget] at h
  | (b', c') :: r, b, c, h => by
    simp only [hget] at h
    split at h
    · rename_i e
      cases h
      rw [Nat.eq_of_beq_eq_true e]
      simp
    · exact List.mem_cons_of_mem _ (hget_mem h)
theorem Stand.cut {F : Nat → Prop} {w0 : World} {N : Nat} {s : St} {a : Act} {w : World} (h : Stand F w0 N s a w) {lo hi : Nat} (hc : okClean lo s = true) : Stand F w0 N { s with lo := lo, hi := hi } a w := by
  obtain ⟨σ, ⟨⟨u, hf, hs⟩, hn⟩, hk, hF⟩ := h
  have hw := hf.sub hs
  simp only [okClean, Bool.and_eq_true, List.all_eq_true, Nat.blt_eq] at hc
  obtain ⟨hct, hch⟩ := hc
  have hcl : ∀ l c, s.u l = some c → CleanC lo hi c := by
    intro l c hl
    cases l with
    | tmp t =>
      simp only [St.u, stU, Option.map_eq_some_iff] at hl
      obtain ⟨x, hx, rfl⟩ := hl
      intro b hb
      have := hct x (List.mem_of_getElem? hx) b hb
      unfold cleanB
      omega
    | blk b =>
      have hm := hget_mem (H := s.heap) hl
      have := (hch _ hm).2
      cases c with
      | av x => intro d hd; have := this d hd; unfold cleanB; omega
      | row e cs => intro d hd; have := this d hd; unfold cleanB; omega
      | obj o => trivial
  have hbl : ∀ b c, s.u (.blk b) = some c → cleanB lo hi b := by
    intro b c hl
    have hm := hget_mem (H := s.heap) hl
    have := (hch _ hm).1
    unfold cleanB
    omega
  refine ⟨cutσ σ lo hi, ⟨⟨s.u, ?_, fun l c h => h⟩, fun b hb1 hb2 => ?_⟩, hk, fun b r hb => hF b r (cutσ_some hb)⟩
  · refine { hw with tmp := fun t v hv => ?_, row := fun b e cs hb => ?_, obj := fun b o hb => ?_, inj := fun b b' r h1 h2 => hw.inj b b' r (cutσ_some h1) (cutσ_some h2), bound := fun b r hb => hw.bound b r (cutσ_some hb), ownsR := fun b _ _ _ _ hr => .inl ⟨b, hr⟩, ownsO := fun b _ _ _ hr => .inl ⟨b, hr⟩, os := rfl, tape := rfl, output := rfl, grown := Nat.le_refl _, frame := fun _ _ _ => rfl }
    · obtain ⟨x, h3, h4⟩ := hw.tmp t v hv
      exact ⟨x, h3, Rel.cut v x (hcl _ _ hv) h4⟩
    · obtain ⟨r, vs, h3, h4, h5⟩ := hw.row b e cs hb
      exact ⟨r, vs, by rw [cutσ_clean (hbl b _ hb)]; exact h3, h4, Rels.cut cs vs (hcl _ _ hb) h5⟩
    · obtain ⟨r, o', h3, h4, h5⟩ := hw.obj b o hb
      exact ⟨r, o', by rw [cutσ_clean (hbl b _ hb)]; exact h3, h4, h5⟩
  · unfold cutσ
    rw [if_pos ⟨hb1, hb2⟩]
end Go.Ab
/- Pieces whose end is told in part. -/
namespace Go.Ab
open Go
def dropSt (keep : List Nat) (G : List Nat) (s : St) : St := { maskSt G s with heap := subheap s.heap keep }
theorem Sub.wk {u' u : U} (h : Sub u' u) : Wk u' u := fun l c hc => ⟨c, h l c hc, WkC.refl c⟩
theorem Wk.trans {a b c : U} (h : Wk a b) (k : Wk b c) : Wk a c := by
  intro l x hx
  obtain ⟨y, h1, h2⟩ := h l x hx
  obtain ⟨z, h3, h4⟩ := k l y h1
  refine ⟨z, h3, ?_⟩
  cases x with
  | av x =>
    cases y with
    | av y =>
      cases z with
      | av z => exact fun σ v hv => h2 σ v (h4 σ v hv)
      | row _ _ => exact h4.elim
      | obj _ => exact h4.elim
    | row _ _ => exact h2.elim
    | obj _ => exact h2.elim
  | row e cs =>
    cases y with
    | av y => exact h2.elim
    | row e' cs' =>
      cases z with
      | av z => exact h4.elim
      | row e'' cs'' => exact ⟨h4.1.trans h2.1, fun σ vs hv => h2.2 σ vs (h4.2 σ vs hv)⟩
      | obj _ => exact h4.elim
    | obj _ => exact h2.elim
  | obj o =>
    cases y with
    | av y => exact h2.elim
    | row _ _ => exact h2.elim
    | obj o' =>
      cases z with
      | av z => exact h4.elim
      | row _ _ => exact h4.elim
      | obj o'' =>
        have h2 : o' = o := h2
        have h4 : o'' = o' := h4
        show o'' = o
        rw [h4, h2]
theorem dropSt_wk (keep G : List Nat) (s : St) : Wk (dropSt keep G s).u s.u := by
  refine Wk.trans (b := (maskSt G s).u) (Sub.wk fun l c h => ?_) (maskSt_wk G s)
  cases l with
  | blk b => exact hget_subheap (l := keep) h
  | tmp t => exact h
theorem runs_drop {P : Program} {N : Nat} {call : CallP} (hcall : ∀ β, CallOk P (call β)) {wy : Way} {F : Nat} {c : Code} {s s1 : St} {e : Ex} (keep G : List Nat)
    (h : run P call N wy [] F (Ex × St) c s (fun e s' => some (e, dropSt keep G s')) = some (e, s1)) : RunsTo P N c s e s1 := by
  obtain ⟨e', s', h1, h2, _⟩ := (run_sound hcall F).1 (Ex × St) (e, s1) c s _ (HFit.nil c) h
  simp only [Option.some.injEq, Prod.mk.injEq] at h1
  obtain ⟨rfl, rfl⟩ := h1
  exact h2.weak_end (dropSt_wk keep G s') (Nat.le_refl _) (Nat.le_refl _)
/-- The same, by hints. -/
theorem runs_dropH {P : Program} {N : Nat} {call : CallP} (hcall : ∀ β, CallOk P (call β)) {wy : Way} {hB : Hints} {F : Nat} {c : Code} (hfit : HFit P N hB c) {s s1 : St} {e : Ex} (keep G : List Nat)
    (h : run P call N wy hB F (Ex × St) c s (fun e s' => some (e, dropSt keep G s')) = some (e, s1)) : RunsTo P N c s e s1 := by
  obtain ⟨e', s', h1, h2, _⟩ := (run_sound hcall F).1 (Ex × St) (e, s1) c s _ hfit h
  simp only [Option.some.injEq, Prod.mk.injEq] at h1
  obtain ⟨rfl, rfl⟩ := h1
  exact h2.weak_end (dropSt_wk keep G s') (Nat.le_refl _) (Nat.le_refl _)
/-- What operations left, told in part. -/
def endOps (keep G : List Nat) : St → List Foot → Option (Bool × St) := fun s _ => forceN s.lo fun lo => forceN s.hi fun hi => some (Nat.ble lo hi, dropSt keep G s)
theorem ops_stand {P : Program} {N : Nat} {ops : Array Oper} {Q : Exit → Act → World → Prop} {call : CallR (Bool × St)} {qf : FuncId → Bool} (hcall : CallOk P call) {l : List Oper} {k : Nat} {s s1 : St} (keep G : List Nat) (h : opsRun P call qf N ops l s [] (endOps keep G) = some (true, s1))
    (hl : ∀ j o, l[j]? = some o → ops[k + j]? = some o) (hok : okNamed s1 = true) {F : Nat → Prop} {w0 : World} {a : Act} {w : World} (hh : Stand F w0 N s a w) (rest : List Nat) (hK : ∀ a' w', Stand F w0 N s1 a' w' → wpOps P ops Q rest a' w') : wpOps P ops Q ((List.range l.length).map (k + ·) ++ rest) a w := by
  refine opsRun_stand hcall h hl hh rest hok (fun s' feet he => ?_) hK
  simp only [endOps, forceN_eq, Option.some.injEq, Prod.mk.injEq] at he
  rw [← he.2]
  exact ⟨.inl (Nat.le_of_ble_eq_true he.1), dropSt_wk keep G s', Nat.le_refl _, Nat.le_refl _⟩
end Go.Ab
/- A function's summary out of pieces that the interpreter ran one by one. -/
namespace Go.Ab
open Go
variable {P : Program} {N : Nat}
theorem RunsTo.seq {c d : Code} {s s1 s2 : St} {e : Ex} (h : RunsTo P N c s .normal s1) (k : RunsTo P N d s1 e s2) : RunsTo P N (.seq c d) s e s2 :=
  fun w0 own σ0 lo0 hi0 a w hst Q hQ => wp_seq (h w0 own σ0 lo0 hi0 a w hst _ fun a' w' hst' => k w0 own σ0 lo0 hi0 a' w' hst' Q hQ)
theorem RunsTo.seqR {c d : Code} {s s1 : St} (h : RunsTo P N c s .ret s1) : RunsTo P N (.seq c d) s .ret s1 :=
  fun w0 own σ0 lo0 hi0 a w hst _ hQ => wp_seq (h w0 own σ0 lo0 hi0 a w hst _ fun a' w' hst' => hQ a' w' hst')
theorem RunsTo.seqX {c d : Code} {s s1 : St} {id : Nat} (h : RunsTo P N c s (.exit id) s1) : RunsTo P N (.seq c d) s (.exit id) s1 :=
  fun w0 own σ0 lo0 hi0 a w hst _ hQ => wp_seq (h w0 own σ0 lo0 hi0 a w hst _ fun a' w' hst' => hQ a' w' hst')
def iterF {τ : Type} (F : Nat → τ → τ) : Nat → Nat → τ → τ
  | _, 0, z => z
  | i, k + 1, z => iterF F (i + 1) k (F i z)
/-- A loop of so many rounds. -/
theorem RunsTo.rounds {τ : Type} {c : Code} {id : Nat} (n : Nat) (I : Nat → τ → St) (E : τ → St) (F : Nat → τ → τ) (h : ∀ i z, i < n → RunsTo P N c (I i z) .normal (I (i + 1) (F i z))) (hE : ∀ z, RunsTo P N c (I n z) (.exit id) (E z)) (z : τ) :
    RunsTo P N (.block id (.loop c)) (I 0 z) .normal (E (iterF F 0 n z)) := by
  let ι := { p : Nat × τ // p.1 ≤ n }
  have hl := RunsTo.loop (P := P) (N := N) (c := c) (ι := ι) (fun i => I i.1.1 i.1.2) (fun i => n - i.1.1) (fun i => E (iterF F i.1.1 (n - i.1.1) i.1.2)) (.exit id) (by
    rintro ⟨⟨i, z⟩, hi⟩
    dsimp only at hi ⊢
    by_cases hlt : i < n
    · refine .inl ⟨⟨(i + 1, F i z), by dsimp only; omega⟩, by dsimp only; omega, ?_, h i z hlt⟩
      dsimp only
      rw [show n - i = n - (i + 1) + 1 by omega]
      rfl
    · have : i = n := by omega
      subst this
      refine .inr ⟨?_, by simp⟩
      rw [Nat.sub_self]
      exact hE z) ⟨(0, z), Nat.zero_le n⟩
  exact RunsTo.block hl (.inr rfl)
theorem RunsTo.facts {f : FuncId} {fn : Func} {c : Code} (hfn : P.funcs[f]? = some fn) (hbody : fn.body = some c) {args : List AV} {H : Hp} {lo hi step : Nat} (hle : args.length ≤ fn.ntmps) {s' : St} {e : Ex} (he : e = .normal ∨ e = .ret)
    (h2 : RunsTo P fn.ntmps c ⟨args ++ List.replicate (fn.ntmps - args.length) (.val undef), H, lo, hi, step, []⟩ e s') {l : List AV} (hl : resA P s' fn.results.toList = some l) (H' : Hp) (hH' : ∀ b c, hget H' b = some c → hget s'.heap b = some c) (hnoav : noAv H' = true) :
    CallFacts P f args H lo hi (pack l) H' := by
  intro σ vals w hinj hbd hvals hH hn
  have hlen := Rels.length hvals
  refine calls_of_wp hfn hbody ?_
  let own : Nat → Prop := fun k => ∃ b c, hget H b = some c ∧ σ b = some k
  have hargsR : Rels σ (args ++ List.replicate (fn.ntmps - args.length) (.val undef)) (vals ++ List.replicate (fn.ntmps - args.length) undef) := Rels.append hvals (Rels.undefs σ _)
  have hst : StFits fn.ntmps w own σ lo hi ⟨args ++ List.replicate (fn.ntmps - args.length) (.val undef), H, lo, hi, step, []⟩
      { tmps := List.toArray vals ++ Array.replicate (fn.ntmps - (List.toArray vals).size) undef, defers := [] } w := by
    refine ⟨σ, stU (args ++ List.replicate (fn.ntmps - args.length) (.val undef)) H, ⟨rfl, ?_, fun t v hv => ?_, fun b e cs hb => hH b _ hb, fun b o hb => hH b _ hb, hinj, hbd, fun b e cs r hb hs => .inl ⟨b, _, hb, hs⟩, fun b o r hb hs => .inl ⟨b, _, hb, hs⟩, rfl, rfl, rfl, Nat.le_refl _, fun _ _ _ => rfl⟩, Sub.refl _, hn, Le.refl σ, fun _ h _ => h, Nat.le_refl _, Nat.le_refl _⟩
    · simp; omega
    · simp only [stU, Option.map_eq_some_iff, Con.av.injEq] at hv
      obtain ⟨x, hx, rfl⟩ := hv
      obtain ⟨y, hy, hrel⟩ := Rels.get hargsR hx
      refine ⟨y, ?_, hrel⟩
      rw [← hy]
      have : (List.toArray vals ++ Array.replicate (fn.ntmps - (List.toArray vals).size) undef) = List.toArray (vals ++ List.replicate (fn.ntmps - args.length) undef) := by
        apply Array.toList_inj.1; simp [hlen]
      simp only [this, List.getElem?_toArray]
  refine h2 w own σ lo hi _ w hst _ fun a' w' hst' => ?_
  obtain ⟨σ', u', hf', hs', hn', hle', hout', _, _⟩ := hst'
  obtain ⟨v, hv, hrel⟩ := run_results (P := P) (fn := fn) hf' hs' hl
  have hnew : ∀ b c, hget H' b = some c → (∃ c', hget H b = some c') ∨ ∀ r, σ' b = some r → w.heap.size ≤ r := by
    intro b c hb
    have hu : u' (.blk b) = some c := hs' _ _ (hH' b c hb)
    cases c with
    | av x => exact absurd hb (noAv_spec hnoav b x)
    | row e2 cs2 =>
      obtain ⟨r, vs2, k1, _⟩ := hf'.row b e2 cs2 hu
      rcases hf'.ownsR b e2 cs2 r hu k1 with ⟨b0, c0, h3, h4⟩ | h3
      · have := hf'.inj _ _ _ k1 (hle' _ _ h4)
        subst this
        exact .inl ⟨c0, h3⟩
      · exact .inr fun r' hr' => by rw [k1] at hr'; cases hr'; exact h3
    | obj o2 =>
      obtain ⟨r, _, k1, _⟩ := hf'.obj b o2 hu
      rcases hf'.ownsO b o2 r hu k1 with ⟨b0, c0, h3, h4⟩ | h3
      · have := hf'.inj _ _ _ k1 (hle' _ _ h4)
        subst this
        exact .inl ⟨c0, h3⟩
      · exact .inr fun r' hr' => by rw [k1] at hr'; cases hr'; exact h3
  have hHF : HFits σ' H' w' := by
    intro b c hb
    have hu : u' (.blk b) = some c := hs' _ _ (hH' b c hb)
    cases c with
    | av x => trivial
    | row e2 cs2 => exact hf'.row b e2 cs2 hu
    | obj o2 => exact hf'.obj b o2 hu
  rcases he with rfl | rfl
  · exact bodyPost_end hv hf'.defers ⟨σ', v, rfl, hle', hout', hrel, hHF, hf'.inj, hf'.bound, hnew, hf'.os, hf'.tape, hf'.output, hf'.grown, fun k hk hk2 => hf'.frame k hk fun ⟨b, c, h3, h4⟩ => hk2 b c h3 h4⟩
  · exact bodyPost_ret hv hf'.defers ⟨σ', v, rfl, hle', hout', hrel, hHF, hf'.inj, hf'.bound, hnew, hf'.os, hf'.tape, hf'.output, hf'.grown, fun k hk hk2 => hf'.frame k hk fun ⟨b, c, h3, h4⟩ => hk2 b c h3 h4⟩
/-- Names that a call doesn't see are let go. -/
theorem facts_narrow {f : FuncId} {args : List AV} {cs cs' : List Con} {r : AV} {lo hi : Nat} (hn : cs.length ≤ lo) (hl : cs'.length = cs.length) (ha : renL (upTo cs.length) args = some args) (hc : renCs (upTo cs.length) cs = some cs) (hr : renO (upTo cs.length) r = some r) (hc' : renCs (upTo cs.length) cs' = some cs')
    (hf : CallFacts P f args (numH 0 cs) lo hi r (numH 0 cs')) : CallFacts P f args (numH 0 cs) 0 0 r (numH 0 cs') := by
  intro σ vals w hinj hbd hvals hH _
  let σr : Nat → Option Nat := fun b => if b < cs.length then σ b else none
  have hσr : ∀ b r, σr b = some r → b < cs.length ∧ σ b = some r := by
    intro b r hb
    simp only [σr] at hb
    split at hb
    · rename_i h; exact ⟨h, hb⟩
    · cases hb
  have t1 : Ties (upTo cs.length) σ σr := by
    intro b b' hb r hr
    obtain ⟨h1, rfl⟩ := upTo_spec hb
    simp only [σr, if_pos h1]; exact hr
  have hHr : HFits σr (numH 0 cs) w := by
    intro b c hb
    rw [hget_numH, if_pos (Nat.zero_le _), Nat.sub_zero] at hb
    obtain ⟨c0, h1, h2⟩ := renCs_get hc hb
    have hlt := (List.getElem?_eq_some_iff.1 h1).1
    have hfit := hH b c0 (by rw [hget_numH, if_pos (Nat.zero_le _), Nat.sub_zero]; exact h1)
    cases c0 with
    | av a => simp [renC] at h2
    | row e cc =>
      obtain ⟨r0, vs, h5, h6⟩ := hfit
      exact renC_fits t1 h2 h5 (by simp only [σr, if_pos hlt]; exact h5) ⟨r0, vs, h5, h6⟩
    | obj o =>
      obtain ⟨r0, o', h5, h6⟩ := hfit
      exact renC_fits t1 h2 h5 (by simp only [σr, if_pos hlt]; exact h5) ⟨r0, o', h5, h6⟩
  refine Calls.mono (hf σr vals w (fun b b' r h1 h2 => hinj _ _ _ (hσr _ _ h1).2 (hσr _ _ h2).2) (fun b r h1 => hbd _ _ (hσr _ _ h1).2) (renL_rel t1 _ _ _ ha hvals) hHr (fun b h1 h2 => by simp only [σr]; rw [if_neg (by omega)])) fun e w' he => ?_
  obtain ⟨σ', v, rfl, p1, p2, p3, p4, p5, p6, p7, p8, p9, p10, p11, p12⟩ := he
  have t2 : Ties (upTo cs.length) σ' σ := by
    intro b b' hb r hr
    obtain ⟨h1, rfl⟩ := upTo_spec hb
    cases hs : σ b' with
    | some r0 =>
      have := p1 b' r0 (by simp only [σr, if_pos h1]; exact hs)
      rw [hr] at this; cases this; rfl
    | none =>
      have := p2 b' (by simp only [σr, if_pos h1]; exact hs) (.inl (by omega))
      rw [hr] at this; cases this
  refine ⟨σ, v, rfl, Le.refl σ, fun _ h _ => h, renO_rel t2 _ _ _ hr p3, ?_, hinj, fun b r hb => Nat.lt_of_lt_of_le (hbd b r hb) p11, ?_, p8, p9, p10, p11, ?_⟩
  · intro b c hb
    have hb0 := hb
    rw [hget_numH, if_pos (Nat.zero_le _), Nat.sub_zero] at hb
    obtain ⟨c0, h1, h2⟩ := renCs_get hc' hb
    have hlt2 : b < cs.length := by rw [← hl]; exact (List.getElem?_eq_some_iff.1 hb).1
    have hfit := p4 b c0 (by rw [hget_numH, if_pos (Nat.zero_le _), Nat.sub_zero]; exact h1)
    cases c0 with
    | av a => simp [renC] at h2
    | row e cc =>
      obtain ⟨r0, vs, h5, h6⟩ := hfit
      exact renC_fits t2 h2 h5 (t2 b b (upTo_lt hlt2) r0 h5) ⟨r0, vs, h5, h6⟩
    | obj o =>
      obtain ⟨r0, o', h5, h6⟩ := hfit
      exact renC_fits t2 h2 h5 (t2 b b (upTo_lt hlt2) r0 h5) ⟨r0, o', h5, h6⟩
  · intro b c hb
    rw [hget_numH, if_pos (Nat.zero_le _), Nat.sub_zero] at hb
    have hlt : b < cs.length := by rw [← hl]; exact (List.getElem?_eq_some_iff.1 hb).1
    exact .inl ⟨cs[b], by rw [hget_numH, if_pos (Nat.zero_le _), Nat.sub_zero]; exact List.getElem?_eq_getElem hlt⟩
  · intro k hk hno
    refine p12 k hk fun b c hb hs => ?_
    rw [hget_numH, if_pos (Nat.zero_le _), Nat.sub_zero] at hb
    obtain ⟨h1, h2⟩ := hσr b k hs
    exact hno b cs[b] (by rw [hget_numH, if_pos (Nat.zero_le _), Nat.sub_zero]; exact List.getElem?_eq_getElem h1) h2
def STP : Nat := 2 ^ 180
def startS (N : Nat) (args : List AV) (cs : List Con) : St := ⟨args ++ List.replicate (N - args.length) (.val undef), numH 0 cs, 4096, 4096 + 2 ^ 200, 2 ^ 180, []⟩
def okCs : List Con → Bool
  | [] => true
  | .av _ :: _ => false
  | _ :: r => okCs r
theorem okCs_spec : ∀ {cs : List Con} (k : Nat), okCs cs = true → noAv (numH k cs) = true
  | [], k, _ => rfl
  | c :: r, k, h => by
    cases c with
    | av _ => simp [okCs] at h
    | row _ _ => simp only [okCs] at h; simp only [numH, noAv]; exact okCs_spec (k + 1) h
    | obj _ => simp only [okCs] at h; simp only [numH, noAv]; exact okCs_spec (k + 1) h
/-- A function's pieces make its summary: its arguments, the blocks that it sees, its answer, and those blocks behind it. -/
theorem sum_runs {f : FuncId} {fn : Func} {c : Code} (hfn : P.funcs[f]? = some fn) (hbody : fn.body = some c) (hN : fn.ntmps = N) {args : List AV} {cs cs' : List Con} {r : AV} (hle : args.length ≤ N) (hn : cs.length ≤ 4096) (hl : cs'.length = cs.length) (ha : renL (upTo cs.length) args = some args) (hc : renCs (upTo cs.length) cs = some cs)
    {e : Ex} (he : e = .normal ∨ e = .ret) {s' : St} (h : RunsTo P N c (startS N args cs) e s') {l : List AV} (hres : resA P s' fn.results.toList = some l) (hp : pack l = r) (hr : renO (upTo cs.length) r = some r) (hcs : ∀ b c, cs'[b]? = some c → hget s'.heap b = some c) (hok : okCs cs' = true) (hc' : renCs (upTo cs.length) cs' = some cs') :
    cs.length ≤ cs'.length ∧ CallFacts P f args (numH 0 cs) cs.length cs'.length r (numH 0 cs') := by
  subst hN
  subst hp
  refine sum_same ⟨hl, facts_narrow hn hl ha hc hr hc' (RunsTo.facts hfn hbody (hi := 4096 + 2 ^ 200) hle he h hres (numH 0 cs') (fun b c hb => ?_) (okCs_spec 0 hok))⟩
  rw [hget_numH, if_pos (Nat.zero_le _), Nat.sub_zero] at hb
  exact hcs b c hb
end Go.Ab
/- An element of foreign memory: its address, and what lies there. -/
namespace Go.Ab
open Go
def seqL : Code → Code | .seq a _ => a | c => c
def seqR : Code → Code | .seq _ b => b | c => c
def inB : Code → Code | .block _ c => c | .loop c => c | c => c
def ifT : Code → Code | .cond _ a _ => a | c => c
def ifE : Code → Code | .cond _ _ b => b | c => c
def regO : Code → Array Oper | .region _ ops _ => ops | _ => #[]
/-- What an operation is. -/
def sigOf (ops : Array Oper) (k : Nat) : Option (Op × Option Nat × Bool) := (ops[k]?).map fun o => (o.op, o.dst, o.guard.isNone)
theorem sigOf_some {ops : Array Oper} {k : Nat} {op : Op} {d : Option Nat} (h : sigOf ops k = some (op, d, true)) : ∃ o, ops[k]? = some o ∧ o.op = op ∧ o.dst = d ∧ o.guard = none := by
  unfold sigOf at h
  cases ho : ops[k]? with
  | none => rw [ho] at h; cases h
  | some o =>
    rw [ho] at h
    simp only [Option.map_some, Option.some.injEq, Prod.mk.injEq, Option.isNone_iff_eq_none] at h
    exact ⟨o, rfl, h.1, h.2.1, h.2.2⟩
theorem run_loadScalar {P : Program} {w : World} {t : TypeId} {d : TypeDesc} {a : Addr} {v : Value} (hd : P.underlying t = some d) (hagg : isAggD d = false) (hc : w.cell? a = some v) : (loadVar t a).run P w = .ok v w := by
  unfold loadVar
  rw [Sem.run_bind, run_isAgg hd w, hagg]
  simp only [Result.andThen_ok, Bool.false_eq_true, if_false, run_load, hc]
section
variable {P : Program} {N : Nat} {ops : Array Oper} {Q : Exit → Act → World → Prop} {F : Nat → Prop} {w0 : World} {s : St} {a : Act} {w : World}
theorem move_stand {k d : Nat} {x : Operand} (hs : sigOf ops k = some (.move x, some d, true)) (hd : d < N) (hlen : s.tmps.length = N) (hh : Stand F w0 N s a w) {v : Value} (hx : a.eval x = v) (rest : List Nat)
    (hK : ∀ a', Stand F w0 N { s with tmps := s.tmps.set d (.val v) } a' w → wpOps P ops Q rest a' w) : wpOps P ops Q (k :: rest) a w := by
  obtain ⟨o, ho, hop, hdst, hg⟩ := sigOf_some hs
  exact op_stand ho hg hdst hd hlen hh (by simp only [execOp, hop, hx, Sem.run_pure]) rest hK
theorem assign_stand {k d : Nat} {x : Operand} (hs : sigOf ops k = some (.assign x, some d, true)) (hd : d < N) (hlen : s.tmps.length = N) (hh : Stand F w0 N s a w) {v : Value} (hx : a.eval x = v) (rest : List Nat)
    (hK : ∀ a', Stand F w0 N { s with tmps := s.tmps.set d (.val v) } a' w → wpOps P ops Q rest a' w) : wpOps P ops Q (k :: rest) a w := by
  obtain ⟨o, ho, hop, hdst, hg⟩ := sigOf_some hs
  exact op_stand ho hg hdst hd hlen hh (by simp only [execOp, hop, hx, Sem.run_pure]) rest hK
theorem index_stand {k d : Nat} {t elem : TypeId} {x ix : Operand} {ti : TypeInfo} (hs : sigOf ops k = some (.indexAddr t x ix, some d, true)) (hd : d < N) (hlen : s.tmps.length = N) (hu : P.underlying t = some (.slice elem)) (hi : P.info? elem = some ti)
    (hh : Stand F w0 N s a w) {b : Addr} {len cap i : Nat} {ik : IntKind} (hx : a.eval x = .slice (some b) len cap) (hix : a.eval ix = .int ik i) (hlt : i < len) (rest : List Nat)
    (hK : ∀ a', Stand F w0 N { s with tmps := s.tmps.set d (.val (.pointer (some (b.add (i * ti.size))))) } a' w → wpOps P ops Q rest a' w) : wpOps P ops Q (k :: rest) a w := by
  obtain ⟨o, ho, hop, hdst, hg⟩ := sigOf_some hs
  refine op_stand ho hg hdst hd hlen hh (v := .pointer (some (b.add (i * ti.size)))) ?_ rest hK
  have hb : 0 ≤ (i : Int) ∧ (i : Int) < (len : Int) := by omega
  simp only [execOp, hop, Instr.indexAt, hix, asIntOf, Sem.run_bind, run_underlying hu, Result.andThen_ok, hx, Sem.run_pure, Sem.run_ite, if_pos hb, run_sizeOf hi, Int.toNat_natCast]
theorem load_stand {k d : Nat} {t : TypeId} {x : Operand} (hs : sigOf ops k = some (.load t x, some d, true)) (hd : d < N) (hlen : s.tmps.length = N) (hh : Stand F w0 N s a w) {b : Addr} (hx : a.eval x = .pointer (some b)) {v : Value} (hv : (loadVar t b).run P w = .ok v w) (rest : List Nat)
    (hK : ∀ a', Stand F w0 N { s with tmps := s.tmps.set d (.val v) } a' w → wpOps P ops Q rest a' w) : wpOps P ops Q (k :: rest) a w := by
  obtain ⟨o, ho, hop, hdst, hg⟩ := sigOf_some hs
  refine op_stand ho hg hdst hd hlen hh ?_ rest hK
  simp only [execOp, hop, Instr.loadAt, hx, Instr.sureAddr, Sem.run_bind, Sem.run_pure, Result.andThen_ok, hv]
end
end Go.Ab
/- Pieces of a function, told by slots and blocks; names that a piece made are let go. -/
namespace Go.Ab
open Go
variable {P : Program} {N : Nat}
def anyV : Nat → AV := fun _ => .any
def restN (N : Nat) (ts : List Nat) : List Nat := (nums 0 N).filter fun i => !hasN ts i
def gSt (N : Nat) (tm : List (Nat × AV)) (H : Hp) (lo : Nat) : St := ⟨tmA N tm anyV, H, lo, 4096 + 2 ^ 200, 2 ^ 180, []⟩
abbrev gRun (P : Program) (E : Env) (N : Nat) (c : Code) (s : St) (keep ts : List Nat) : Option (Ex × St) := run P (callN P E 4) N { quiet := isSum E.gam } [] 1000 (Ex × St) c s (fun e s => some (e, dropSt keep (restN N ts) s))
/-- The same, and the names that were made are free again. -/
abbrev gCut (P : Program) (E : Env) (N : Nat) (c : Code) (s : St) (lo : Nat) (keep ts : List Nat) : Option (Ex × St) := run P (callN P E 4) N { quiet := isSum E.gam } [] 1000 (Ex × St) c s (fun e s => some (e, { dropSt keep (restN N ts) s with lo := lo }))
theorem gRun_runs {E : Env} (hG : GamOk P E.gam) {c : Code} {s s1 : St} {e : Ex} {keep ts : List Nat} (h : gRun P E N c s keep ts = some (e, s1)) : RunsTo P N c s e s1 := runs_drop (callN_ok hG 4) keep _ h
theorem gCut_runs {E : Env} (hG : GamOk P E.gam) {c : Code} {s s1 : St} {e : Ex} {lo : Nat} {keep ts : List Nat} (h : gCut P E N c s lo keep ts = some (e, s1)) (hlo : s.lo = lo) (hok : okClean lo s1 = true) (hhi : s1.hi = s.hi) : RunsTo P N c s e s1 := by
  subst hlo
  simp only [okClean, Bool.and_eq_true, List.all_eq_true, Nat.blt_eq] at hok
  obtain ⟨hct, hch⟩ := hok
  refine runs_gc (callN_ok hG 4) (restN N ts) keep h hhi (fun b c hb => ?_) fun σ _ _ l c hl => ?_
  · have hm := hget_mem (H := s1.heap) hb
    have := (hch _ hm).1
    unfold cleanB
    omega
  · cases l with
    | tmp t =>
      simp only [St.u, stU, Option.map_eq_some_iff] at hl
      obtain ⟨x, hx, rfl⟩ := hl
      intro b hb
      have := hct x (List.mem_of_getElem? hx) b hb
      unfold cleanB
      omega
    | blk b =>
      have hm := hget_mem (H := s1.heap) hl
      have := (hch _ hm).2
      cases c with
      | av x => intro d hd; have := this d hd; unfold cleanB; omega
      | row e cs => intro d hd; have := this d hd; unfold cleanB; omega
      | obj o => trivial
/-- What a piece has made and nobody names any more is let go. -/
theorem RunsTo.freed {c : Code} {s s1 : St} {e : Ex} (h2 : RunsTo P N c s e s1) {lo : Nat} (hlo : s.lo = lo) (hok : okClean lo s1 = true) (hhi : s1.hi = s.hi) : RunsTo P N c s e { s1 with lo := lo } := by
  subst hlo
  simp only [okClean, Bool.and_eq_true, List.all_eq_true, Nat.blt_eq] at hok
  obtain ⟨hct, hch⟩ := hok
  have hblk : ∀ b c, s1.u (.blk b) = some c → cleanB s.lo s.hi b := fun b c hb => by
    have hm := hget_mem (H := s1.heap) hb
    have := (hch _ hm).1
    unfold cleanB
    omega
  have hcl : ∀ l c, s1.u l = some c → CleanC s.lo s.hi c := fun l c hl => by
    cases l with
    | tmp t =>
      simp only [St.u, stU, Option.map_eq_some_iff] at hl
      obtain ⟨x, hx, rfl⟩ := hl
      intro b hb
      have := hct x (List.mem_of_getElem? hx) b hb
      unfold cleanB
      omega
    | blk b =>
      have hm := hget_mem (H := s1.heap) hl
      have := (hch _ hm).2
      cases c with
      | av x => intro d hd; have := this d hd; unfold cleanB; omega
      | row e cs => intro d hd; have := this d hd; unfold cleanB; omega
      | obj o => trivial
  intro w0 own σ0 lo0 hi0 a w hst Q hQ
  refine h2 w0 own σ0 lo0 hi0 a w hst Q fun a' w' hst' => hQ a' w' ?_
  obtain ⟨σs, us, hfs, hss, hns, hls, hos, hlos, his⟩ := hst
  obtain ⟨σ, u, hf, hs, hn, hl, ho, hlo, hi⟩ := hst'
  have hw : Fits N w0 own σ s1.u a' w' := hf.sub hs
  have hnone : ∀ b, s.lo ≤ b → b < s.hi → σ0 b = none := by
    intro b hb1 hb2
    cases h0 : σ0 b with
    | none => rfl
    | some r => have := hls b r h0; rw [hns b hb1 hb2] at this; cases this
  refine ⟨cutσ σ s.lo s.hi, s1.u, ?_, Sub.refl _, fun b hb1 hb2 => ?_, fun b r hb => ?_, fun b hb1 hb2 => ?_, hlos, by rw [hhi]; exact his⟩
  · refine { hw with tmp := fun t v hv => ?_, row := fun b e cs hb => ?_, obj := fun b o hb => ?_, inj := fun b b' r h1 h2 => hw.inj b b' r (cutσ_some h1) (cutσ_some h2), bound := fun b r hb => hw.bound b r (cutσ_some hb), ownsR := fun b e cs r hb hr => hw.ownsR b e cs r hb (cutσ_some hr), ownsO := fun b o r hb hr => hw.ownsO b o r hb (cutσ_some hr) }
    · obtain ⟨x, h3, h4⟩ := hw.tmp t v hv
      exact ⟨x, h3, Rel.cut v x (hcl _ _ hv) h4⟩
    · obtain ⟨r, vs, h3, h4, h5⟩ := hw.row b e cs hb
      exact ⟨r, vs, by rw [cutσ_clean (hblk b _ hb)]; exact h3, h4, Rels.cut cs vs (hcl _ _ hb) h5⟩
    · obtain ⟨r, o', h3, h4, h5⟩ := hw.obj b o hb
      exact ⟨r, o', by rw [cutσ_clean (hblk b _ hb)]; exact h3, h4, h5⟩
  · have hb2 : b < s.hi := by rw [← hhi]; exact hb2
    unfold cutσ
    rw [if_pos ⟨hb1, hb2⟩]
  · have hc : cleanB s.lo s.hi b := fun hc => by rw [hnone b hc.1 hc.2] at hb; cases hb
    rw [cutσ_clean hc]
    exact hl b r hb
  · have := ho b hb1 hb2
    unfold cutσ
    split
    · rfl
    · exact this
def ints (n : Nat) (v : Nat → Int) : List AV := (nums 0 n).map fun i => .val (.int .i64 (v i))
end Go.Ab
/- Vectors over open operations, and how a statement's chain of tests ends. -/
namespace Go.Ab
theorem pull {ω : Type} [Cod ω] {c : Bool} {x y : ω} {e : TypeId} {b : Bool} : (bif c then some (AV.val (Cod.enc x), row e b) else some (AV.val (Cod.enc y), row e b)) = some (AV.val (Cod.enc (bif c then x else y)), row e b) := by cases c <;> rfl
def V3.zero : V3 := ⟨0, 0, 0⟩
def v3b (a b : V3) : Bool := a.x == b.x && (a.y == b.y && (a.z == b.z && true))
theorem v3b_self (a : V3) : v3b a a = true := by simp [v3b]
def sayF : Option (AV × List Con) := some (.val (.bool false), [])
def say (b : Bool) : Option (AV × List Con) := some (.val (.bool b), [])
/-- each: part by part. -/
def each3 (b : Bool) (g : Bool → Int × Bool) (h : Bool → Int × Bool) (k : Bool → Int × Bool) : V3 × Bool :=
  (⟨(g b).1, (h (g b).2).1, (k (h (g b).2).2).1⟩, (k (h (g b).2).2).2)
def done3 (r : V3 × Bool) : V3 × Bool := (bif r.2 then V3.zero else r.1, r.2)
def vop (g : Bool → Int → Int → Int × Bool) (b : Bool) (p : V3 × V3 × Unit) : V3 × Bool :=
  done3 (each3 b (fun b => g b p.1.x p.2.1.x) (fun b => g b p.1.y p.2.1.y) (fun b => g b p.1.z p.2.1.z))
end Go.Ab
