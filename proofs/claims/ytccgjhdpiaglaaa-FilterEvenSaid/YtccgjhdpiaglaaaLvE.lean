/- A part of the proof of 'FilterEven': lemmas, no statement of their own; no condition. -/
import Derived.Test.YtccgjhdpiaglaaaGFjE
import Derived.Test.YtccgjhdpiaglaaaGFjK
/- FilterEven: what is moved, or met, has an attitude 1 long, and a P that is the same about its diagonal. -/
set_option linter.unusedSimpArgs false
namespace Go.Ab
open Go Go.Proofs
theorem evT (nm : Bool → Int × Int × Int × Unit → Int × Bool) (g : Gs) : fnSum Try.prog { gam := [(69, S 25 nm)] } [] 20 53 [.val (Cod.enc g)] [] = (bif (nm (nm false (g.q.w, g.q.x, g.q.y, ())).snd ((nm false (g.q.w, g.q.x, g.q.y, ())).fst, g.q.z, 0, ())).snd then some (AV.val (Value.bool false), []) else bif bif false then true else decide (IntKind.i64.wrap ((nm (nm false (g.q.w, g.q.x, g.q.y, ())).snd ((nm false (g.q.w, g.q.x, g.q.y, ())).fst, g.q.z, 0, ())).fst - 1099511627776) > 16) then some (AV.val (Value.bool false), []) else bif bif false then true else decide (IntKind.i64.wrap ((nm (nm false (g.q.w, g.q.x, g.q.y, ())).snd ((nm false (g.q.w, g.q.x, g.q.y, ())).fst, g.q.z, 0, ())).fst - 1099511627776) < -16) then some (AV.val (Value.bool false), []) else bif g.p.b.a != g.p.a.b then some (AV.val (Value.bool false), []) else bif g.p.c.a != g.p.a.c then some (AV.val (Value.bool false), []) else bif g.p.c.b != g.p.b.c then some (AV.val (Value.bool false), []) else bif g.p.d.a != g.p.a.d then some (AV.val (Value.bool false), []) else bif g.p.d.b != g.p.b.d then some (AV.val (Value.bool false), []) else bif g.p.d.c != g.p.c.d then some (AV.val (Value.bool false), []) else bif g.p.e.a != g.p.a.e then some (AV.val (Value.bool false), []) else bif g.p.e.b != g.p.b.e then some (AV.val (Value.bool false), []) else bif g.p.e.c != g.p.c.e then some (AV.val (Value.bool false), []) else bif g.p.e.d != g.p.d.e then some (AV.val (Value.bool false), []) else bif g.p.f.a != g.p.a.f then some (AV.val (Value.bool false), []) else bif g.p.f.b != g.p.b.f then some (AV.val (Value.bool false), []) else bif g.p.f.c != g.p.c.f then some (AV.val (Value.bool false), []) else bif g.p.f.d != g.p.d.f then some (AV.val (Value.bool false), []) else bif g.p.f.e != g.p.e.f then some (AV.val (Value.bool false), []) else some (AV.val (Value.bool true), [])) := by kernel_rfl
def evN (nm : Bool → Int × Int × Int × Unit → Int × Bool) (g : Gs) : Int × Bool := nm (nm false (g.q.w, g.q.x, g.q.y, ())).2 ((nm false (g.q.w, g.q.x, g.q.y, ())).1, g.q.z, 0, ())
def evF (nm : Bool → Int × Int × Int × Unit → Int × Bool) (g : Gs) : Bool := !(evN nm g).2 && (!decide (IntKind.i64.wrap ((evN nm g).1 - 1099511627776) > 16) && (!decide (IntKind.i64.wrap ((evN nm g).1 - 1099511627776) < -16) && (g.p.b.a == g.p.a.b && (g.p.c.a == g.p.a.c && (g.p.c.b == g.p.b.c && (g.p.d.a == g.p.a.d && (g.p.d.b == g.p.b.d && (g.p.d.c == g.p.c.d && (g.p.e.a == g.p.a.e && (g.p.e.b == g.p.b.e && (g.p.e.c == g.p.c.e && (g.p.e.d == g.p.d.e && (g.p.f.a == g.p.a.f && (g.p.f.b == g.p.b.f && (g.p.f.c == g.p.c.f && (g.p.f.d == g.p.d.f && (g.p.f.e == g.p.e.f)))))))))))))))))
theorem pullB {c r : Bool} : (bif c then some (AV.val (Value.bool false), ([] : List Con)) else some (AV.val (Value.bool r), [])) = some (AV.val (Value.bool (!c && r)), []) := by cases c <;> rfl
theorem evT_eq (nm : Bool → Int × Int × Int × Unit → Int × Bool) (g : Gs) : fnSum Try.prog { gam := [(69, S 25 nm)] } [] 20 53 [.val (Cod.enc g)] [] = some (.val (.bool (evF nm g)), []) := by
  rw [evT]
  simp only [cond_false, pullB, bne, Bool.not_not, Bool.and_true]
  rfl
def evenV (p : Gs × Unit) : Bool := evF (op3 fnorm) p.1
theorem okEven : SumOk Try.prog 53 (S0 evenV) := S0_ok (E := { gam := [(69, S 25 (op3 fnorm))] }) (.cons ok141 .nil) 20 fun a => evT_eq _ a.1
theorem even_true {g : Gs} (h1 : QU g.q) (h2 : SymX g.p.at) : evenV (g, ()) = true := by
  obtain ⟨m, n, e1, e2, e3, e4⟩ := unit_norm h1
  have hn : evN (op3 fnorm) g = (n, false) := by
    unfold evN op3
    dsimp only
    rw [e1]
    dsimp only
    rw [e2]
  unfold evenV evF
  dsimp only
  rw [hn]
  dsimp only
  have hw : IntKind.i64.wrap (n - 1099511627776) = n - 1099511627776 := wrap_i64_id (by omega) (by omega)
  rw [hw, decide_eq_false (by omega : ¬ (n - 1099511627776 > 16)), decide_eq_false (by omega : ¬ (n - 1099511627776 < -16))]
  have h10 : g.p.b.a = g.p.a.b := h2 1 0 (by omega) (by omega)
  have h20 : g.p.c.a = g.p.a.c := h2 2 0 (by omega) (by omega)
  have h21 : g.p.c.b = g.p.b.c := h2 2 1 (by omega) (by omega)
  have h30 : g.p.d.a = g.p.a.d := h2 3 0 (by omega) (by omega)
  have h31 : g.p.d.b = g.p.b.d := h2 3 1 (by omega) (by omega)
  have h32 : g.p.d.c = g.p.c.d := h2 3 2 (by omega) (by omega)
  have h40 : g.p.e.a = g.p.a.e := h2 4 0 (by omega) (by omega)
  have h41 : g.p.e.b = g.p.b.e := h2 4 1 (by omega) (by omega)
  have h42 : g.p.e.c = g.p.c.e := h2 4 2 (by omega) (by omega)
  have h43 : g.p.e.d = g.p.d.e := h2 4 3 (by omega) (by omega)
  have h50 : g.p.f.a = g.p.a.f := h2 5 0 (by omega) (by omega)
  have h51 : g.p.f.b = g.p.b.f := h2 5 1 (by omega) (by omega)
  have h52 : g.p.f.c = g.p.c.f := h2 5 2 (by omega) (by omega)
  have h53 : g.p.f.d = g.p.d.f := h2 5 3 (by omega) (by omega)
  have h54 : g.p.f.e = g.p.e.f := h2 5 4 (by omega) (by omega)
  rw [h10, h20, h21, h30, h31, h32, h40, h41, h42, h43, h50, h51, h52, h53, h54]
  simp only [BEq.rfl, Bool.not_false, Bool.and_self]
theorem move_zero0 {F : FOps} (hst : F.st = stF) {b : Bool} {g : Gs} {rate : V3} {ms : Int} (h : (moveO F b (g, rate, ms, ())).2 = true) : (moveO F b (g, rate, ms, ())).1 = Gs.zero := by
  obtain ⟨mid, y, e⟩ := mvT_is F b g rate ms
  rw [e] at h ⊢
  unfold mvT at h ⊢
  dsimp only at h ⊢
  rw [hst] at h ⊢
  rw [st_bad h]
def lawT (ev : Gs × Unit → Bool) (m : Gs × Bool) (k : GCB × Bool) : Option (AV × List Con) :=
  bif m.2 then some (.val (.bool (gsJ m.1 Gs.zero)), []) else bif !ev (m.1, ()) then some (.val (.bool false), []) else
    bif k.2 then bif gsJ k.1.g Gs.zero then bif k.1.chi == 0 then some (.val (.bool (!k.1.ok)), []) else some (.val (.bool false), []) else some (.val (.bool false), [])
    else bif !k.1.ok then bif gsJ k.1.g m.1 then some (.val (.bool (decide (k.1.chi > 32985348833280))), []) else some (.val (.bool false), [])
      else bif ev (k.1.g, ()) then some (.val (.bool (decide (k.1.chi ≤ 32985348833280))), []) else some (.val (.bool false), [])
theorem lawE (ev : Gs × Unit → Bool) (mv : Bool → Gs × V3 × Int × Unit → Gs × Bool) (me : Bool → Gs × P2 × P2 × Unit → GCB × Bool) (a0 a1 a2 a3 a4 a5 a6 a7 a8 a9 a10 a11 a12 a13 a14 a15 a16 a17 a18 a19 a20 a21 a22 a23 a24 a25 a26 a27 a28 a29 a30 a31 a32 a33 a34 a35 a36 a37 a38 a39 a40 a41 a42 r0 r1 r2 s0 s1 s2 s3 s4 s5 s6 s7 s8 s9 s10 s11 s12 : Int) :
    fnSum Try.prog { gam := [(44, S0 fun (_ : Unit) => true), (53, S0 ev), (51, S 25 mv), (54, S 25 me)] } [] 20 12 (List.map AV.val [.agg #[.int .i64 a0, .int .i64 a1, .int .i64 a2, .int .i64 a3, .int .i64 a4, .int .i64 a5, .int .i64 a6, .int .i64 a7, .int .i64 a8, .int .i64 a9, .int .i64 a10, .int .i64 a11, .int .i64 a12, .int .i64 a13, .int .i64 a14, .int .i64 a15, .int .i64 a16, .int .i64 a17, .int .i64 a18, .int .i64 a19, .int .i64 a20, .int .i64 a21, .int .i64 a22, .int .i64 a23, .int .i64 a24, .int .i64 a25, .int .i64 a26, .int .i64 a27, .int .i64 a28, .int .i64 a29, .int .i64 a30, .int .i64 a31, .int .i64 a32, .int .i64 a33, .int .i64 a34, .int .i64 a35, .int .i64 a36, .int .i64 a37, .int .i64 a38, .int .i64 a39, .int .i64 a40, .int .i64 a41, .int .i64 a42], .agg #[.int .i64 r0, .int .i64 r1, .int .i64 r2], .agg #[.int .i64 s0, .int .i64 s1, .int .i64 s2, .int .i64 s3, .int .i64 s4, .int .i64 s5, .int .i64 s6, .int .i64 s7, .int .i64 s8, .int .i64 s9, .int .i64 s10, .int .i64 s11, .int .i64 s12]]) [] =
      lawT ev (mv false (⟨⟨a0, a1, a2, a3⟩, ⟨a4, a5, a6⟩, ⟨⟨a7, a8, a9, a10, a11, a12⟩, ⟨a13, a14, a15, a16, a17, a18⟩, ⟨a19, a20, a21, a22, a23, a24⟩, ⟨a25, a26, a27, a28, a29, a30⟩, ⟨a31, a32, a33, a34, a35, a36⟩, ⟨a37, a38, a39, a40, a41, a42⟩⟩⟩, ⟨r0, r1, r2⟩, s0, ())) (me (mv false (⟨⟨a0, a1, a2, a3⟩, ⟨a4, a5, a6⟩, ⟨⟨a7, a8, a9, a10, a11, a12⟩, ⟨a13, a14, a15, a16, a17, a18⟩, ⟨a19, a20, a21, a22, a23, a24⟩, ⟨a25, a26, a27, a28, a29, a30⟩, ⟨a31, a32, a33, a34, a35, a36⟩, ⟨a37, a38, a39, a40, a41, a42⟩⟩⟩, ⟨r0, r1, r2⟩, s0, ())).2 ((mv false (⟨⟨a0, a1, a2, a3⟩, ⟨a4, a5, a6⟩, ⟨⟨a7, a8, a9, a10, a11, a12⟩, ⟨a13, a14, a15, a16, a17, a18⟩, ⟨a19, a20, a21, a22, a23, a24⟩, ⟨a25, a26, a27, a28, a29, a30⟩, ⟨a31, a32, a33, a34, a35, a36⟩, ⟨a37, a38, a39, a40, a41, a42⟩⟩⟩, ⟨r0, r1, r2⟩, s0, ())).1, ⟨⟨s1, s2, s3⟩, ⟨s4, s5, s6⟩⟩, ⟨⟨s7, s8, s9⟩, ⟨s10, s11, s12⟩⟩, ())) := by kernel_rfl
def meetV : Bool → Gs × P2 × P2 × Unit → GCB × Bool := meetO GP
theorem okMeetV : SumOk Try.prog 54 (S 25 meetV) := okMeetF
theorem lawT_true (g : Gs) (rate : V3) (ms : Int) (sky body : P2) : lawT evenV (moveV false (g, rate, ms, ())) (meetV (moveV false (g, rate, ms, ())).2 ((moveV false (g, rate, ms, ())).1, sky, body, ())) = some (.val (.bool true), []) := by
  have hmv : moveV = moveO FP := rfl
  have hme : meetV = meetO GP := rfl
  rw [hmv, hme]
  unfold lawT
  cases hm : (moveO FP false (g, rate, ms, ())).2 with
  | true =>
    rw [move_zero0 FPst hm, gsJ_self]
    rfl
  | false =>
    obtain ⟨h1, h2⟩ := move_even hm
    rw [even_true h1 h2]
    generalize (moveO FP false (g, rate, ms, ())).1 = h
    rcases meet_even false h sky body with ⟨k1, k2⟩ | ⟨k1, k2, k3, k4⟩ | ⟨k1, k2, k3, k4, k5⟩
    · rw [k1, k2]
      have e : gsJ GCB.zero.g Gs.zero = true := gsJ_self _
      rw [e]
      rfl
    · rw [k1, k2, k3, gsJ_self, decide_eq_true k4]
      rfl
    · rw [k1, k2, even_true k3 k4, decide_eq_true k5]
      rfl
set_option maxRecDepth 8000 in
theorem FilterEven_calls (a0 a1 a2 a3 a4 a5 a6 a7 a8 a9 a10 a11 a12 a13 a14 a15 a16 a17 a18 a19 a20 a21 a22 a23 a24 a25 a26 a27 a28 a29 a30 a31 a32 a33 a34 a35 a36 a37 a38 a39 a40 a41 a42 r0 r1 r2 s0 s1 s2 s3 s4 s5 s6 s7 s8 s9 s10 s11 s12 : Int) (w : World) : Calls Try.prog 12 #[.agg #[.int .i64 a0, .int .i64 a1, .int .i64 a2, .int .i64 a3, .int .i64 a4, .int .i64 a5, .int .i64 a6, .int .i64 a7, .int .i64 a8, .int .i64 a9, .int .i64 a10, .int .i64 a11, .int .i64 a12, .int .i64 a13, .int .i64 a14, .int .i64 a15, .int .i64 a16, .int .i64 a17, .int .i64 a18, .int .i64 a19, .int .i64 a20, .int .i64 a21, .int .i64 a22, .int .i64 a23, .int .i64 a24, .int .i64 a25, .int .i64 a26, .int .i64 a27, .int .i64 a28, .int .i64 a29, .int .i64 a30, .int .i64 a31, .int .i64 a32, .int .i64 a33, .int .i64 a34, .int .i64 a35, .int .i64 a36, .int .i64 a37, .int .i64 a38, .int .i64 a39, .int .i64 a40, .int .i64 a41, .int .i64 a42], .agg #[.int .i64 r0, .int .i64 r1, .int .i64 r2], .agg #[.int .i64 s0, .int .i64 s1, .int .i64 s2, .int .i64 s3, .int .i64 s4, .int .i64 s5, .int .i64 s6, .int .i64 s7, .int .i64 s8, .int .i64 s9, .int .i64 s10, .int .i64 s11, .int .i64 s12]] w fun e w' => e = .returned (.bool true) ∧ RowKit.Below w.heap.size w w' :=
  calls_of_sum (E := { gam := [(44, S0 fun (_ : Unit) => true), (53, S0 evenV), (51, S 25 moveV), (54, S 25 meetV)] }) (.cons okAwake (.cons okEven (.cons okMoveV (.cons okMeetV .nil)))) ((lawE evenV moveV meetV a0 a1 a2 a3 a4 a5 a6 a7 a8 a9 a10 a11 a12 a13 a14 a15 a16 a17 a18 a19 a20 a21 a22 a23 a24 a25 a26 a27 a28 a29 a30 a31 a32 a33 a34 a35 a36 a37 a38 a39 a40 a41 a42 r0 r1 r2 s0 s1 s2 s3 s4 s5 s6 s7 s8 s9 s10 s11 s12).trans (lawT_true ..)) w
end Go.Ab
