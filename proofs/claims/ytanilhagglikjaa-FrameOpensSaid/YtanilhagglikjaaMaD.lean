/- A part of the proof of 'FrameOpens': lemmas, no statement of their own; no condition. -/
import Derived.Test.YtanilhagglikjaaMaC
/- Pieces whose end is told in part. -/
namespace Go.Ab
open Go
def dropSt (keep : List Nat) (G : List Nat) (s : St) : St := { maskSt G s with heap := subheap s.heap keep }
theorem Sub.wk {u' u : U} (h : Sub u' u) : Wk u' u := fun l c hc => ⟨c, h l c hc, WkC.refl c⟩
theorem Wk.trans {a b c : U} (h : Wk a b) (k : Wk b c) : Wk a c := by
  intro l x hx
  obtain ⟨y, h1, h2⟩ := h l x hx
  obtain ⟨z, h3, h4⟩ := k l y h1
  refine ⟨z, h3, ?_⟩
  cases x with
  | av x =>
    cases y with
    | av y =>
      cases z with
      | av z => exact fun σ v hv => h2 σ v (h4 σ v hv)
      | row _ _ => exact h4.elim
      | obj _ => exact h4.elim
    | row _ _ => exact h2.elim
    | obj _ => exact h2.elim
  | row e cs =>
    cases y with
    | av y => exact h2.elim
    | row e' cs' =>
      cases z with
      | av z => exact h4.elim
      | row e'' cs'' => exact ⟨h4.1.trans h2.1, fun σ vs hv => h2.2 σ vs (h4.2 σ vs hv)⟩
      | obj _ => exact h4.elim
    | obj _ => exact h2.elim
  | obj o =>
    cases y with
    | av y => exact h2.elim
    | row _ _ => exact h2.elim
    | obj o' =>
      cases z with
      | av z => exact h4.elim
      | row _ _ => exact h4.elim
      | obj o'' =>
        have h2 : o' = o := h2
        have h4 : o'' = o' := h4
        show o'' = o
        rw [h4, h2]
theorem dropSt_wk (keep G : List Nat) (s : St) : Wk (dropSt keep G s).u s.u := by
  refine Wk.trans (b := (maskSt G s).u) (Sub.wk fun l c h => ?_) (maskSt_wk G s)
  cases l with
  | blk b => exact hget_subheap (l := keep) h
  | tmp t => exact h
theorem runs_drop {P : Program} {N : Nat} {call : CallP} (hcall : ∀ β, CallOk P (call β)) {wy : Way} {F : Nat} {c : Code} {s s1 : St} {e : Ex} (keep G : List Nat)
    (h : run P call N wy [] F (Ex × St) c s (fun e s' => some (e, dropSt keep G s')) = some (e, s1)) : RunsTo P N c s e s1 := by
  obtain ⟨e', s', h1, h2, _⟩ := (run_sound hcall F).1 (Ex × St) (e, s1) c s _ (HFit.nil c) h
  simp only [Option.some.injEq, Prod.mk.injEq] at h1
  obtain ⟨rfl, rfl⟩ := h1
  exact h2.weak_end (dropSt_wk keep G s') (Nat.le_refl _) (Nat.le_refl _)
/-- The same, by hints. -/
theorem runs_dropH {P : Program} {N : Nat} {call : CallP} (hcall : ∀ β, CallOk P (call β)) {wy : Way} {hB : Hints} {F : Nat} {c : Code} (hfit : HFit P N hB c) {s s1 : St} {e : Ex} (keep G : List Nat)
    (h : run P call N wy hB F (Ex × St) c s (fun e s' => some (e, dropSt keep G s')) = some (e, s1)) : RunsTo P N c s e s1 := by
  obtain ⟨e', s', h1, h2, _⟩ := (run_sound hcall F).1 (Ex × St) (e, s1) c s _ hfit h
  simp only [Option.some.injEq, Prod.mk.injEq] at h1
  obtain ⟨rfl, rfl⟩ := h1
  exact h2.weak_end (dropSt_wk keep G s') (Nat.le_refl _) (Nat.le_refl _)
/-- What operations left, told in part. -/
def endOps (keep G : List Nat) : St → List Foot → Option (Bool × St) := fun s _ => forceN s.lo fun lo => forceN s.hi fun hi => some (Nat.ble lo hi, dropSt keep G s)
theorem ops_stand {P : Program} {N : Nat} {ops : Array Oper} {Q : Exit → Act → World → Prop} {call : CallR (Bool × St)} {qf : FuncId → Bool} (hcall : CallOk P call) {l : List Oper} {k : Nat} {s s1 : St} (keep G : List Nat) (h : opsRun P call qf N ops l s [] (endOps keep G) = some (true, s1))
    (hl : ∀ j o, l[j]? = some o → ops[k + j]? = some o) (hok : okNamed s1 = true) {F : Nat → Prop} {w0 : World} {a : Act} {w : World} (hh : Stand F w0 N s a w) (rest : List Nat) (hK : ∀ a' w', Stand F w0 N s1 a' w' → wpOps P ops Q rest a' w') : wpOps P ops Q ((List.range l.length).map (k + ·) ++ rest) a w := by
  refine opsRun_stand hcall h hl hh rest hok (fun s' feet he => ?_) hK
  simp only [endOps, forceN_eq, Option.some.injEq, Prod.mk.injEq] at he
  rw [← he.2]
  exact ⟨.inl (Nat.le_of_ble_eq_true he.1), dropSt_wk keep G s', Nat.le_refl _, Nat.le_refl _⟩
end Go.Ab
