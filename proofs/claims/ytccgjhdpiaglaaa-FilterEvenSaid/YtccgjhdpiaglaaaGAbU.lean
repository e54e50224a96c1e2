/- A part of the proofs: lemmas, no statement of their own; no condition. -/
import Derived.Test.YtccgjhdpiaglaaaGAbM
import Derived.Test.YtccgjhdpiaglaaaProg
import Derived.KernelRfl
import Derived.Lib.ItoaNum
import Derived.Shelf.Small.Bits
import Derived.Shelf.Strconv.Itoa0
import Derived.Shelf.Bits.Mul64
/- A function's summary out of pieces that the interpreter ran one by one. -/
namespace Go.Ab
open Go
variable {P : Program} {N : Nat}
theorem RunsTo.seq {c d : Code} {s s1 s2 : St} {e : Ex} (h : RunsTo P N c s .normal s1) (k : RunsTo P N d s1 e s2) : RunsTo P N (.seq c d) s e s2 :=
  fun w0 own σ0 lo0 hi0 a w hst Q hQ => wp_seq (h w0 own σ0 lo0 hi0 a w hst _ fun a' w' hst' => k w0 own σ0 lo0 hi0 a' w' hst' Q hQ)
theorem RunsTo.seqR {c d : Code} {s s1 : St} (h : RunsTo P N c s .ret s1) : RunsTo P N (.seq c d) s .ret s1 :=
  fun w0 own σ0 lo0 hi0 a w hst _ hQ => wp_seq (h w0 own σ0 lo0 hi0 a w hst _ fun a' w' hst' => hQ a' w' hst')
def iterF {τ : Type} (F : Nat → τ → τ) : Nat → Nat → τ → τ
  | _, 0, z => z
  | i, k + 1, z => iterF F (i + 1) k (F i z)
/-- A loop of so many rounds. -/
theorem RunsTo.rounds {τ : Type} {c : Code} {id : Nat} (n : Nat) (I : Nat → τ → St) (E : τ → St) (F : Nat → τ → τ) (h : ∀ i z, i < n → RunsTo P N c (I i z) .normal (I (i + 1) (F i z))) (hE : ∀ z, RunsTo P N c (I n z) (.exit id) (E z)) (z : τ) :
    RunsTo P N (.block id (.loop c)) (I 0 z) .normal (E (iterF F 0 n z)) := by
  let ι := { p : Nat × τ // p.1 ≤ n }
  have hl := RunsTo.loop (P := P) (N := N) (c := c) (ι := ι) (fun i => I i.1.1 i.1.2) (fun i => n - i.1.1) (fun i => E (iterF F i.1.1 (n - i.1.1) i.1.2)) (.exit id) (by
    rintro ⟨⟨i, z⟩, hi⟩
    dsimp only at hi ⊢
    by_cases hlt : i < n
    · refine .inl ⟨⟨(i + 1, F i z), by dsimp only; omega⟩, by dsimp only; omega, ?_, h i z hlt⟩
      dsimp only
      rw [show n - i = n - (i + 1) + 1 by omega]
      rfl
    · have : i = n := by omega
      subst this
      refine .inr ⟨?_, by simp⟩
      rw [Nat.sub_self]
      exact hE z) ⟨(0, z), Nat.zero_le n⟩
  exact RunsTo.block hl (.inr rfl)
theorem RunsTo.facts {f : FuncId} {fn : Func} {c : Code} (hfn : P.funcs[f]? = some fn) (hbody : fn.body = some c) {args : List AV} {H : Hp} {lo hi step : Nat} (hle : args.length ≤ fn.ntmps) {s' : St} {e : Ex} (he : e = .normal ∨ e = .ret)
    (h2 : RunsTo P fn.ntmps c ⟨args ++ List.replicate (fn.ntmps - args.length) (.val undef), H, lo, hi, step, []⟩ e s') {l : List AV} (hl : resA P s' fn.results.toList = some l) (H' : Hp) (hH' : ∀ b c, hget H' b = some c → hget s'.heap b = some c) (hnoav : noAv H' = true) :
    CallFacts P f args H lo hi (pack l) H' := by
  intro σ vals w hinj hbd hvals hH hn
  have hlen := Rels.length hvals
  refine calls_of_wp hfn hbody ?_
  let own : Nat → Prop := fun k => ∃ b c, hget H b = some c ∧ σ b = some k
  have hargsR : Rels σ (args ++ List.replicate (fn.ntmps - args.length) (.val undef)) (vals ++ List.replicate (fn.ntmps - args.length) undef) := Rels.append hvals (Rels.undefs σ _)
  have hst : StFits fn.ntmps w own σ lo hi ⟨args ++ List.replicate (fn.ntmps - args.length) (.val undef), H, lo, hi, step, []⟩
      { tmps := List.toArray vals ++ Array.replicate (fn.ntmps - (List.toArray vals).size) undef, defers := [] } w := by
    refine ⟨σ, stU (args ++ List.replicate (fn.ntmps - args.length) (.val undef)) H, ⟨rfl, ?_, fun t v hv => ?_, fun b e cs hb => hH b _ hb, fun b o hb => hH b _ hb, hinj, hbd, fun b e cs r hb hs => .inl ⟨b, _, hb, hs⟩, fun b o r hb hs => .inl ⟨b, _, hb, hs⟩, rfl, rfl, rfl, Nat.le_refl _, fun _ _ _ => rfl⟩, Sub.refl _, hn, Le.refl σ, fun _ h _ => h, Nat.le_refl _, Nat.le_refl _⟩
    · simp; omega
    · simp only [stU, Option.map_eq_some_iff, Con.av.injEq] at hv
      obtain ⟨x, hx, rfl⟩ := hv
      obtain ⟨y, hy, hrel⟩ := Rels.get hargsR hx
      refine ⟨y, ?_, hrel⟩
      rw [← hy]
      have : (List.toArray vals ++ Array.replicate (fn.ntmps - (List.toArray vals).size) undef) = List.toArray (vals ++ List.replicate (fn.ntmps - args.length) undef) := by
        apply Array.toList_inj.1; simp [hlen]
      simp only [this, List.getElem?_toArray]
  refine h2 w own σ lo hi _ w hst _ fun a' w' hst' => ?_
  obtain ⟨σ', u', hf', hs', hn', hle', hout', _, _⟩ := hst'
  obtain ⟨v, hv, hrel⟩ := run_results (P := P) (fn := fn) hf' hs' hl
  have hnew : ∀ b c, hget H' b = some c → (∃ c', hget H b = some c') ∨ ∀ r, σ' b = some r → w.heap.size ≤ r := by
    intro b c hb
    have hu : u' (.blk b) = some c := hs' _ _ (hH' b c hb)
    cases c with
    | av x => exact absurd hb (noAv_spec hnoav b x)
    | row e2 cs2 =>
      obtain ⟨r, vs2, k1, _⟩ := hf'.row b e2 cs2 hu
      rcases hf'.ownsR b e2 cs2 r hu k1 with ⟨b0, c0, h3, h4⟩ | h3
      · have := hf'.inj _ _ _ k1 (hle' _ _ h4)
        subst this
        exact .inl ⟨c0, h3⟩
      · exact .inr fun r' hr' => by rw [k1] at hr'; cases hr'; exact h3
    | obj o2 =>
      obtain ⟨r, _, k1, _⟩ := hf'.obj b o2 hu
      rcases hf'.ownsO b o2 r hu k1 with ⟨b0, c0, h3, h4⟩ | h3
      · have := hf'.inj _ _ _ k1 (hle' _ _ h4)
        subst this
        exact .inl ⟨c0, h3⟩
      · exact .inr fun r' hr' => by rw [k1] at hr'; cases hr'; exact h3
  have hHF : HFits σ' H' w' := by
    intro b c hb
    have hu : u' (.blk b) = some c := hs' _ _ (hH' b c hb)
    cases c with
    | av x => trivial
    | row e2 cs2 => exact hf'.row b e2 cs2 hu
    | obj o2 => exact hf'.obj b o2 hu
  rcases he with rfl | rfl
  · exact bodyPost_end hv hf'.defers ⟨σ', v, rfl, hle', hout', hrel, hHF, hf'.inj, hf'.bound, hnew, hf'.os, hf'.tape, hf'.output, hf'.grown, fun k hk hk2 => hf'.frame k hk fun ⟨b, c, h3, h4⟩ => hk2 b c h3 h4⟩
  · exact bodyPost_ret hv hf'.defers ⟨σ', v, rfl, hle', hout', hrel, hHF, hf'.inj, hf'.bound, hnew, hf'.os, hf'.tape, hf'.output, hf'.grown, fun k hk hk2 => hf'.frame k hk fun ⟨b, c, h3, h4⟩ => hk2 b c h3 h4⟩
/-- Names that a call doesn't see are let go. -/
theorem facts_narrow {f : FuncId} {args : List AV} {cs cs' : List Con} {r : AV} {lo hi : Nat} (hn : cs.length ≤ lo) (hl : cs'.length = cs.length) (ha : renL (upTo cs.length) args = some args) (hc : renCs (upTo cs.length) cs = some cs) (hr : renO (upTo cs.length) r = some r) (hc' : renCs (upTo cs.length) cs' = some cs')
    (hf : CallFacts P f args (numH 0 cs) lo hi r (numH 0 cs')) : CallFacts P f args (numH 0 cs) 0 0 r (numH 0 cs') := by
  intro σ vals w hinj hbd hvals hH _
  let σr : Nat → Option Nat := fun b => if b < cs.length then σ b else none
  have hσr : ∀ b r, σr b = some r → b < cs.length ∧ σ b = some r := by
    intro b r hb
    simp only [σr] at hb
    split at hb
    · rename_i h; exact ⟨h, hb⟩
    · cases hb
  have t1 : Ties (upTo cs.length) σ σr := by
    intro b b' hb r hr
    obtain ⟨h1, rfl⟩ := upTo_spec hb
    simp only [σr, if_pos h1]; exact hr
  have hHr : HFits σr (numH 0 cs) w := by
    intro b c hb
    rw [hget_numH, if_pos (Nat.zero_le _), Nat.sub_zero] at hb
    obtain ⟨c0, h1, h2⟩ := renCs_get hc hb
    have hlt := (List.getElem?_eq_some_iff.1 h1).1
    have hfit := hH b c0 (by rw [hget_numH, if_pos (Nat.zero_le _), Nat.sub_zero]; exact h1)
    cases c0 with
    | av a => simp [renC] at h2
    | row e cc =>
      obtain ⟨r0, vs, h5, h6⟩ := hfit
      exact renC_fits t1 h2 h5 (by simp only [σr, if_pos hlt]; exact h5) ⟨r0, vs, h5, h6⟩
    | obj o =>
      obtain ⟨r0, o', h5, h6⟩ := hfit
      exact renC_fits t1 h2 h5 (by simp only [σr, if_pos hlt]; exact h5) ⟨r0, o', h5, h6⟩
  refine Calls.mono (hf σr vals w (fun b b' r h1 h2 => hinj _ _ _ (hσr _ _ h1).2 (hσr _ _ h2).2) (fun b r h1 => hbd _ _ (hσr _ _ h1).2) (renL_rel t1 _ _ _ ha hvals) hHr (fun b h1 h2 => by simp only [σr]; rw [if_neg (by omega)])) fun e w' he => ?_
  obtain ⟨σ', v, rfl, p1, p2, p3, p4, p5, p6, p7, p8, p9, p10, p11, p12⟩ := he
  have t2 : Ties (upTo cs.length) σ' σ := by
    intro b b' hb r hr
    obtain ⟨h1, rfl⟩ := upTo_spec hb
    cases hs : σ b' with
    | some r0 =>
      have := p1 b' r0 (by simp only [σr, if_pos h1]; exact hs)
      rw [hr] at this; cases this; rfl
    | none =>
      have := p2 b' (by simp only [σr, if_pos h1]; exact hs) (.inl (by omega))
      rw [hr] at this; cases this
  refine ⟨σ, v, rfl, Le.refl σ, fun _ h _ => h, renO_rel t2 _ _ _ hr p3, ?_, hinj, fun b r hb => Nat.lt_of_lt_of_le (hbd b r hb) p11, ?_, p8, p9, p10, p11, ?_⟩
  · intro b c hb
    have hb0 := hb
    rw [hget_numH, if_pos (Nat.zero_le _), Nat.sub_zero] at hb
    obtain ⟨c0, h1, h2⟩ := renCs_get hc' hb
    have hlt2 : b < cs.length := by rw [← hl]; exact (List.getElem?_eq_some_iff.1 hb).1
    have hfit := p4 b c0 (by rw [hget_numH, if_pos (Nat.zero_le _), Nat.sub_zero]; exact h1)
    cases c0 with
    | av a => simp [renC] at h2
    | row e cc =>
      obtain ⟨r0, vs, h5, h6⟩ := hfit
      exact renC_fits t2 h2 h5 (t2 b b (upTo_lt hlt2) r0 h5) ⟨r0, vs, h5, h6⟩
    | obj o =>
      obtain ⟨r0, o', h5, h6⟩ := hfit
      exact renC_fits t2 h2 h5 (t2 b b (upTo_lt hlt2) r0 h5) ⟨r0, o', h5, h6⟩
  · intro b c hb
    rw [hget_numH, if_pos (Nat.zero_le _), Nat.sub_zero] at hb
    have hlt : b < cs.length := by rw [← hl]; exact (List.getElem?_eq_some_iff.1 hb).1
    exact .inl ⟨cs[b], by rw [hget_numH, if_pos (Nat.zero_le _), Nat.sub_zero]; exact List.getElem?_eq_getElem hlt⟩
  · intro k hk hno
    refine p12 k hk fun b c hb hs => ?_
    rw [hget_numH, if_pos (Nat.zero_le _), Nat.sub_zero] at hb
    obtain ⟨h1, h2⟩ := hσr b k hs
    exact hno b cs[b] (by rw [hget_numH, if_pos (Nat.zero_le _), Nat.sub_zero]; exact List.getElem?_eq_getElem h1) h2
def startS (N : Nat) (args : List AV) (cs : List Con) : St := ⟨args ++ List.replicate (N - args.length) (.val undef), numH 0 cs, 4096, 4096 + 2 ^ 200, 2 ^ 180, []⟩
def okCs : List Con → Bool
  | [] => true
  | .av _ :: _ => false
  | _ :: r => okCs r
theorem okCs_spec : ∀ {cs : List Con} (k : Nat), okCs cs = true → noAv (numH k cs) = true
  | [], k, _ => rfl
  | c :: r, k, h => by
    cases c with
    | av _ => simp [okCs] at h
    | row _ _ => simp only [okCs] at h; simp only [numH, noAv]; exact okCs_spec (k + 1) h
    | obj _ => simp only [okCs] at h; simp only [numH, noAv]; exact okCs_spec (k + 1) h
/-- A function's pieces make its summary: its arguments, the blocks that it sees, its answer, and those blocks behind it. -/
theorem sum_runs {f : FuncId} {fn : Func} {c : Code} (hfn : P.funcs[f]? = some fn) (hbody : fn.body = some c) (hN : fn.ntmps = N) {args : List AV} {cs cs' : List Con} {r : AV} (hle : args.length ≤ N) (hn : cs.length ≤ 4096) (hl : cs'.length = cs.length) (ha : renL (upTo cs.length) args = some args) (hc : renCs (upTo cs.length) cs = some cs)
    {e : Ex} (he : e = .normal ∨ e = .ret) {s' : St} (h : RunsTo P N c (startS N args cs) e s') {l : List AV} (hres : resA P s' fn.results.toList = some l) (hp : pack l = r) (hr : renO (upTo cs.length) r = some r) (hcs : ∀ b c, cs'[b]? = some c → hget s'.heap b = some c) (hok : okCs cs' = true) (hc' : renCs (upTo cs.length) cs' = some cs') :
    cs.length ≤ cs'.length ∧ CallFacts P f args (numH 0 cs) cs.length cs'.length r (numH 0 cs') := by
  subst hN
  subst hp
  refine sum_same ⟨hl, facts_narrow hn hl ha hc hr hc' (RunsTo.facts hfn hbody (hi := 4096 + 2 ^ 200) hle he h hres (numH 0 cs') (fun b c hb => ?_) (okCs_spec 0 hok))⟩
  rw [hget_numH, if_pos (Nat.zero_le _), Nat.sub_zero] at hb
  exact hcs b c hb
end Go.Ab
/- An element of foreign memory: its address, and what lies there. -/
namespace Go.Ab
open Go
def seqL : Code → Code | .seq a _ => a | c => c
def seqR : Code → Code | .seq _ b => b | c => c
def inB : Code → Code | .block _ c => c | .loop c => c | c => c
section
variable {P : Program} {N : Nat} {ops : Array Oper} {Q : Exit → Act → World → Prop} {F : Nat → Prop} {w0 : World} {s : St} {a : Act} {w : World}
end
end Go.Ab
/- Pieces of a function, told by slots and blocks; names that a piece made are let go. -/
namespace Go.Ab
open Go
variable {P : Program} {N : Nat}
def anyV : Nat → AV := fun _ => .any
def restN (N : Nat) (ts : List Nat) : List Nat := (nums 0 N).filter fun i => !hasN ts i
def gSt (N : Nat) (tm : List (Nat × AV)) (H : Hp) (lo : Nat) : St := ⟨tmA N tm anyV, H, lo, 4096 + 2 ^ 200, 2 ^ 180, []⟩
abbrev gRun (P : Program) (E : Env) (N : Nat) (c : Code) (s : St) (keep ts : List Nat) : Option (Ex × St) := run P (callN P E 4) N { quiet := isSum E.gam } [] 1000 (Ex × St) c s (fun e s => some (e, dropSt keep (restN N ts) s))
/-- The same, and the names that were made are free again. -/
abbrev gCut (P : Program) (E : Env) (N : Nat) (c : Code) (s : St) (lo : Nat) (keep ts : List Nat) : Option (Ex × St) := run P (callN P E 4) N { quiet := isSum E.gam } [] 1000 (Ex × St) c s (fun e s => some (e, { dropSt keep (restN N ts) s with lo := lo }))
theorem gRun_runs {E : Env} (hG : GamOk P E.gam) {c : Code} {s s1 : St} {e : Ex} {keep ts : List Nat} (h : gRun P E N c s keep ts = some (e, s1)) : RunsTo P N c s e s1 := runs_drop (callN_ok hG 4) keep _ h
theorem gCut_runs {E : Env} (hG : GamOk P E.gam) {c : Code} {s s1 : St} {e : Ex} {lo : Nat} {keep ts : List Nat} (h : gCut P E N c s lo keep ts = some (e, s1)) (hlo : s.lo = lo) (hok : okClean lo s1 = true) (hhi : s1.hi = s.hi) : RunsTo P N c s e s1 := by
  subst hlo
  simp only [okClean, Bool.and_eq_true, List.all_eq_true, Nat.blt_eq] at hok
  obtain ⟨hct, hch⟩ := hok
  refine runs_gc (callN_ok hG 4) (restN N ts) keep h hhi (fun b c hb => ?_) fun σ _ _ l c hl => ?_
  · have hm := hget_mem (H := s1.heap) hb
    have := (hch _ hm).1
    unfold cleanB
    omega
  · cases l with
    | tmp t =>
      simp only [St.u, stU, Option.map_eq_some_iff] at hl
      obtain ⟨x, hx, rfl⟩ := hl
      intro b hb
      have := hct x (List.mem_of_getElem? hx) b hb
      unfold cleanB
      omega
    | blk b =>
      have hm := hget_mem (H := s1.heap) hl
      have := (hch _ hm).2
      cases c with
      | av x => intro d hd; have := this d hd; unfold cleanB; omega
      | row e cs => intro d hd; have := this d hd; unfold cleanB; omega
      | obj o => trivial
/-- What a piece has made and nobody names any more is let go. -/
theorem RunsTo.freed {c : Code} {s s1 : St} {e : Ex} (h2 : RunsTo P N c s e s1) {lo : Nat} (hlo : s.lo = lo) (hok : okClean lo s1 = true) (hhi : s1.hi = s.hi) : RunsTo P N c s e { s1 with lo := lo } := by
  subst hlo
  simp only [okClean, Bool.and_eq_true, List.all_eq_true, Nat.blt_eq] at hok
  obtain ⟨hct, hch⟩ := hok
  have hblk : ∀ b c, s1.u (.blk b) = some c → cleanB s.lo s.hi b := fun b c hb => by
    have hm := hget_mem (H := s1.heap) hb
    have := (hch _ hm).1
    unfold cleanB
    omega
  have hcl : ∀ l c, s1.u l = some c → CleanC s.lo s.hi c := fun l c hl => by
    cases l with
    | tmp t =>
      simp only [St.u, stU, Option.map_eq_some_iff] at hl
      obtain ⟨x, hx, rfl⟩ := hl
      intro b hb
      have := hct x (List.mem_of_getElem? hx) b hb
      unfold cleanB
      omega
    | blk b =>
      have hm := hget_mem (H := s1.heap) hl
      have := (hch _ hm).2
      cases c with
      | av x => intro d hd; have := this d hd; unfold cleanB; omega
      | row e cs => intro d hd; have := this d hd; unfold cleanB; omega
      | obj o => trivial
  intro w0 own σ0 lo0 hi0 a w hst Q hQ
  refine h2 w0 own σ0 lo0 hi0 a w hst Q fun a' w' hst' => hQ a' w' ?_
  obtain ⟨σs, us, hfs, hss, hns, hls, hos, hlos, his⟩ := hst
  obtain ⟨σ, u, hf, hs, hn, hl, ho, hlo, hi⟩ := hst'
  have hw : Fits N w0 own σ s1.u a' w' := hf.sub hs
  have hnone : ∀ b, s.lo ≤ b → b < s.hi → σ0 b = none := by
    intro b hb1 hb2
    cases h0 : σ0 b with
    | none => rfl
    | some r => have := hls b r h0; rw [hns b hb1 hb2] at this; cases this
  refine ⟨cutσ σ s.lo s.hi, s1.u, ?_, Sub.refl _, fun b hb1 hb2 => ?_, fun b r hb => ?_, fun b hb1 hb2 => ?_, hlos, by rw [hhi]; exact his⟩
  · refine { hw with tmp := fun t v hv => ?_, row := fun b e cs hb => ?_, obj := fun b o hb => ?_, inj := fun b b' r h1 h2 => hw.inj b b' r (cutσ_some h1) (cutσ_some h2), bound := fun b r hb => hw.bound b r (cutσ_some hb), ownsR := fun b e cs r hb hr => hw.ownsR b e cs r hb (cutσ_some hr), ownsO := fun b o r hb hr => hw.ownsO b o r hb (cutσ_some hr) }
    · obtain ⟨x, h3, h4⟩ := hw.tmp t v hv
      exact ⟨x, h3, Rel.cut v x (hcl _ _ hv) h4⟩
    · obtain ⟨r, vs, h3, h4, h5⟩ := hw.row b e cs hb
      exact ⟨r, vs, by rw [cutσ_clean (hblk b _ hb)]; exact h3, h4, Rels.cut cs vs (hcl _ _ hb) h5⟩
    · obtain ⟨r, o', h3, h4, h5⟩ := hw.obj b o hb
      exact ⟨r, o', by rw [cutσ_clean (hblk b _ hb)]; exact h3, h4, h5⟩
  · have hb2 : b < s.hi := by rw [← hhi]; exact hb2
    unfold cutσ
    rw [if_pos ⟨hb1, hb2⟩]
  · have hc : cleanB s.lo s.hi b := fun hc => by rw [hnone b hc.1 hc.2] at hb; cases hb
    rw [cutσ_clean hc]
    exact hl b r hb
  · have := ho b hb1 hb2
    unfold cutσ
    split
    · rfl
    · exact this
def ints (n : Nat) (v : Nat → Int) : List AV := (nums 0 n).map fun i => .val (.int .i64 (v i))
end Go.Ab
/- Vectors over open operations, and how a statement's chain of tests ends. -/
namespace Go.Ab
theorem pull {ω : Type} [Cod ω] {c : Bool} {x y : ω} {e : TypeId} {b : Bool} : (bif c then some (AV.val (Cod.enc x), row e b) else some (AV.val (Cod.enc y), row e b)) = some (AV.val (Cod.enc (bif c then x else y)), row e b) := by cases c <;> rfl
def V3.zero : V3 := ⟨0, 0, 0⟩
/-- each: part by part. -/
def each3 (b : Bool) (g : Bool → Int × Bool) (h : Bool → Int × Bool) (k : Bool → Int × Bool) : V3 × Bool :=
  (⟨(g b).1, (h (g b).2).1, (k (h (g b).2).2).1⟩, (k (h (g b).2).2).2)
def done3 (r : V3 × Bool) : V3 × Bool := (bif r.2 then V3.zero else r.1, r.2)
def vop (g : Bool → Int → Int → Int × Bool) (b : Bool) (p : V3 × V3 × Unit) : V3 × Bool :=
  done3 (each3 b (fun b => g b p.1.x p.2.1.x) (fun b => g b p.1.y p.2.1.y) (fun b => g b p.1.z p.2.1.z))
end Go.Ab
namespace Go.Ab
structure U6 where
  n : Int
instance : Cod U6 where
  enc x := .int .u64 x.n
  dec v := match v with | .int .u64 x => some ⟨x⟩ | _ => none
  law v a h := by split at h <;> simp_all; subst h; simp
/-- A function without blocks, where a condition holds. -/
def S0c {α ω : Type} [Args α] [Cod ω] (pre : α → Bool) (g : α → ω) : Summary := fun args cs => match cs with
  | [] => match Args.decs (α := α) args with
    | some a => .test (pre a) (.ret (.val (Cod.enc (g a))) []) .no
    | none => .no
  | _ :: _ => .no
theorem S0c_sel {α ω : Type} [Args α] [Cod ω] {pre : α → Bool} {g : α → ω} {args : List AV} {cs cs' : List Con} {r : AV} (h : (S0c pre g args cs).sel = some (r, cs')) :
    ∃ a, pre a = true ∧ args = Args.encs a ∧ cs = [] ∧ r = .val (Cod.enc (g a)) ∧ cs' = [] := by
  unfold S0c at h
  split at h
  · split at h
    · rename_i a h1
      simp only [STr.sel] at h
      cases hp : pre a with
      | false => rw [hp] at h; cases h
      | true =>
        rw [hp] at h
        simp only [cond_true, Option.some.injEq, Prod.mk.injEq] at h
        obtain ⟨rfl, rfl⟩ := h
        exact ⟨a, hp, Args.law _ _ h1, rfl, rfl, rfl⟩
    · simp [STr.sel] at h
  · simp [STr.sel] at h
theorem S0c_okH {α ω : Type} [Args α] [Cod ω] {P : Program} {E : Env} (hG : GamOk P E.gam) {hB : Hints} {f : FuncId} (hfit : ∀ fn c, P.funcs[f]? = some fn → fn.body = some c → HFit P fn.ntmps hB c) {pre : α → Bool} {g : α → ω} (d : Nat)
    (h : ∀ a, pre a = true → fnSum P E hB d f (Args.encs a) [] = some (.val (Cod.enc (g a)), [])) : SumOk P f (S0c pre g) := by
  refine sumOk_ofH hG hfit fun args cs r cs' hs => ?_
  obtain ⟨a, hp, rfl, rfl, rfl, rfl⟩ := S0c_sel hs
  exact ⟨by simp, d, h a hp⟩
/-- A contract that leaves the world as it was. -/
theorem facts_quiet {P : Program} {f : FuncId} {vals : List Value} {v : Value} (h : ∀ w, Calls P f (List.toArray vals) w fun e w' => e = .returned v ∧ w' = w) : CallFacts P f (vals.map .val) (numH 0 []) 0 0 (.val v) (numH 0 []) := by
  intro σ vs w hinj hbd hvals _ _
  have e : vs = vals := by
    clear h hinj hbd
    induction vals generalizing vs with
    | nil => simpa only [List.map_nil, Rels] using hvals
    | cons a r ih =>
      simp only [List.map_cons, Rels] at hvals
      obtain ⟨x, xs, rfl, h1, h2⟩ := hvals
      simp only [Rel] at h1
      rw [h1, ih xs h2]
  subst e
  refine Calls.mono (h w) fun e w' ⟨he, hw⟩ => ?_
  subst hw
  exact ⟨σ, v, he, Le.refl σ, fun _ h _ => h, by simp only [Rel], fun b c hb => by simp [numH, hget] at hb, hinj, hbd, fun b c hb => by simp [numH, hget] at hb, rfl, rfl, rfl, Nat.le_refl _, fun _ _ _ => rfl⟩
theorem S0c_quiet {α ω : Type} [Args α] [Cod ω] {P : Program} {f : FuncId} {pre : α → Bool} {g : α → ω} (vals : α → List Value) (hv : ∀ a, Args.encs a = (vals a).map .val)
    (h : ∀ a, pre a = true → ∀ w, Calls P f (List.toArray (vals a)) w fun e w' => e = .returned (Cod.enc (g a)) ∧ w' = w) : SumOk P f (S0c pre g) := by
  intro args cs r cs' hs
  obtain ⟨a, hp, rfl, rfl, rfl, rfl⟩ := S0c_sel hs
  exact sum_same ⟨rfl, by rw [hv]; exact facts_quiet (h a hp)⟩
end Go.Ab
namespace Go.Ab
/-- 128 bits. -/
structure Wd where
  h : Int
  l : Int
instance : Cod Wd where
  enc v := .agg #[.int .u64 v.h, .int .u64 v.l]
  dec v := match v with | .agg ⟨[.int .u64 x, .int .u64 y]⟩ => some ⟨x, y⟩ | _ => none
  law v a h := by split at h <;> simp_all; subst h; simp
end Go.Ab
namespace Go.Ab
/-! ### the numbers -/
def num (x : Int) : Bool := decide (x ≤ 4611686018427387904) && decide (-4611686018427387904 ≤ x)
theorem wrap_i64 (z : Int) : IntKind.i64.wrap z = (z + 9223372036854775808) % 18446744073709551616 - 9223372036854775808 := by
  have : IntKind.i64.wrap z = if z % 18446744073709551616 ≥ 9223372036854775808 then z % 18446744073709551616 - 18446744073709551616 else z % 18446744073709551616 := by
    simp [IntKind.wrap, IntKind.bits, IntKind.signed]
  rw [this]
  split <;> omega
theorem wrap_u64 (z : Int) : IntKind.u64.wrap z = z % 18446744073709551616 := by
  simp [IntKind.wrap, IntKind.bits, IntKind.signed]
theorem wrap_i64_id {z : Int} (h1 : -9223372036854775808 ≤ z) (h2 : z < 9223372036854775808) : IntKind.i64.wrap z = z := by rw [wrap_i64]; omega
theorem wrap_u64_id {z : Int} (h1 : 0 ≤ z) (h2 : z < 18446744073709551616) : IntKind.u64.wrap z = z := by rw [wrap_u64]; omega
def fadd (b : Bool) (x y : Int) : Int × Bool := bif !b && (num x && (num y && num (x + y))) then (x + y, false) else (0, true)
def fsub (b : Bool) (x y : Int) : Int × Bool := bif !b && (num x && (num y && num (x - y))) then (x - y, false) else (0, true)
theorem num_iff {x : Int} : num x = true ↔ -4611686018427387904 ≤ x ∧ x ≤ 4611686018427387904 := by simp [num]; omega
theorem tdiv2 (x : Int) : x.tdiv 2 = if 0 ≤ x then x / 2 else -((-x) / 2) := by
  have h2 : Int.sign 2 = 1 := rfl
  rw [Int.tdiv_eq_ediv, h2]
  split <;> split <;> omega
theorem tmod2 (x : Int) : x.tmod 2 = if 0 ≤ x then x % 2 else -((-x) % 2) := by
  have h := Int.tmod_add_mul_tdiv x 2
  rw [tdiv2] at h
  split at h <;> split <;> omega
theorem half_sum {x y : Int} (hx1 : -4611686018427387904 ≤ x) (hx2 : x ≤ 4611686018427387904) (hy1 : -4611686018427387904 ≤ y) (hy2 : y ≤ 4611686018427387904) :
    IntKind.i64.wrap (IntKind.i64.wrap (IntKind.i64.wrap (x.tdiv 2) + IntKind.i64.wrap (y.tdiv 2)) + IntKind.i64.wrap ((IntKind.i64.wrap (x.tmod 2 + y.tmod 2)).tdiv 2)) = x.tdiv 2 + y.tdiv 2 + (x.tmod 2 + y.tmod 2).tdiv 2 := by
  have b1 := tdiv2 x
  have b2 := tdiv2 y
  have b3 := tmod2 x
  have b4 := tmod2 y
  have a1 : -2305843009213693952 ≤ x.tdiv 2 ∧ x.tdiv 2 ≤ 2305843009213693952 := by constructor <;> omega
  have a2 : -2305843009213693952 ≤ y.tdiv 2 ∧ y.tdiv 2 ≤ 2305843009213693952 := by constructor <;> omega
  have a3 : -1 ≤ x.tmod 2 ∧ x.tmod 2 ≤ 1 := by constructor <;> omega
  have a4 : -1 ≤ y.tmod 2 ∧ y.tmod 2 ≤ 1 := by constructor <;> omega
  have b5 := tdiv2 (x.tmod 2 + y.tmod 2)
  rw [wrap_i64_id (z := x.tdiv 2) (by omega) (by omega), wrap_i64_id (z := y.tdiv 2) (by omega) (by omega), wrap_i64_id (z := x.tmod 2 + y.tmod 2) (by omega) (by omega),
    wrap_i64_id (z := (x.tmod 2 + y.tmod 2).tdiv 2) (by omega) (by omega), wrap_i64_id (z := x.tdiv 2 + y.tdiv 2) (by omega) (by omega), wrap_i64_id (by omega) (by omega)]
end Go.Ab
/- Long division by halves of a word: the laws of numbers. -/
namespace Go.Ab
/-- One digit: what the loop that guesses keeps. -/
def dpre : List Int → Bool
  | [y1, y0, u, q, r] => decide (2147483648 ≤ y1 ∧ y1 < 4294967296 ∧ 0 ≤ y0 ∧ y0 < 4294967296 ∧ 0 ≤ u ∧ u < 4294967296 ∧ 0 ≤ q ∧ q < 18446744073709551616 ∧ 0 ≤ r ∧ r < 4294967296 ∧ q * y1 + r < y1 * 4294967296 + y0 ∧ u + r * 4294967296 < q * y0 + y1 * 4294967296 + y0)
  | _ => false
def digit (y1 y0 u U : Int) : Int := (U * 4294967296 + u) / (y1 * 4294967296 + y0)
def dpostV (Q R : Int → Int → Int → Int → Int → Int) : List Int → List Int
  | [y1, y0, u, q, r] => [y1, y0, u, Q y1 y0 u q r, R y1 y0 u q r]
  | l => l
def dpost : List Int → List Int := dpostV (fun y1 y0 u q r => digit y1 y0 u (q * y1 + r)) (fun y1 y0 u q r => q * y1 + r - digit y1 y0 u (q * y1 + r) * y1)
theorem le_digit {y1 y0 u U q : Int} (hy : 0 < y1 * 4294967296 + y0) : q ≤ digit y1 y0 u U ↔ q * y1 * 4294967296 + q * y0 ≤ U * 4294967296 + u := by
  unfold digit
  rw [Int.le_ediv_iff_mul_le hy, Int.mul_add, ← Int.mul_assoc]
theorem digit_of {y1 y0 u U q : Int} (hy : 0 < y1 * 4294967296 + y0) (h1 : q * y1 * 4294967296 + q * y0 ≤ U * 4294967296 + u) (h2 : U * 4294967296 + u < q * y1 * 4294967296 + q * y0 + y1 * 4294967296 + y0) : digit y1 y0 u U = q := by
  have a := (le_digit (q := q) (u := u) (U := U) hy).2 h1
  have b : ¬ (q + 1 ≤ digit y1 y0 u U) := by
    rw [le_digit hy, Int.add_mul, Int.add_mul, Int.add_mul]
    omega
  omega
/-- The loop's step, told of its tests. -/
theorem dstep {y1 y0 u q r : Int} (h : dpre [y1, y0, u, q, r] = true) :
    (q ≥ 4294967296 ∨ q * y0 > 4294967296 * r + u → 1 ≤ q ∧ (r + y1 ≥ 4294967296 → dpost [y1, y0, u, q, r] = [y1, y0, u, q - 1, r + y1]) ∧ (r + y1 < 4294967296 → dpre [y1, y0, u, q - 1, r + y1] = true ∧ dpost [y1, y0, u, q - 1, r + y1] = dpost [y1, y0, u, q, r])) ∧
    (q < 4294967296 → q * y0 ≤ 4294967296 * r + u → dpost [y1, y0, u, q, r] = [y1, y0, u, q, r]) := by
  simp only [dpre, decide_eq_true_eq] at h
  obtain ⟨a1, a2, a3, a4, a5, a6, a7, a8, a9, a10, a11, a12⟩ := h
  have hy : 0 < y1 * 4294967296 + y0 := by omega
  have e1 : (q - 1) * y1 = q * y1 - y1 := by rw [Int.sub_mul, Int.one_mul]
  have e2 : (q - 1) * y0 = q * y0 - y0 := by rw [Int.sub_mul, Int.one_mul]
  refine ⟨fun hc => ?_, fun hq hc => ?_⟩
  · have hq1 : 1 ≤ q := by
      rcases hc with hc | hc
      · omega
      · rcases Int.lt_or_le 0 q with h | h
        · omega
        · have : q = 0 := by omega
          subst this
          omega
    -- the guess is too great
    have hgt : 4294967296 * r + u < q * y0 := by
      rcases hc with hc | hc
      · have b1 : 4294967296 * y1 ≤ q * y1 := Int.mul_le_mul_of_nonneg_right hc (by omega)
        have b2 : 4294967296 * y0 ≤ q * y0 := Int.mul_le_mul_of_nonneg_right hc (by omega)
        omega
      · omega
    refine ⟨hq1, fun hr => ?_, fun hr => ⟨?_, ?_⟩⟩
    · -- it ends
      have hlt : (q - 1) * y1 < 4294967296 * y1 := by rw [e1]; omega
      have hq : q - 1 < 4294967296 := Int.lt_of_mul_lt_mul_right hlt (by omega)
      have b : (q - 1) * y0 ≤ 4294967296 * 4294967296 := Int.le_trans (Int.mul_le_mul_of_nonneg_right (by omega) a3) (Int.mul_le_mul_of_nonneg_left (by omega) (by omega))
      have hd : digit y1 y0 u (q * y1 + r) = q - 1 := by
        refine digit_of hy ?_ ?_ <;> rw [e1, e2] <;> omega
      simp only [dpost, dpostV, hd, e1]
      rw [show q * y1 + r - (q * y1 - y1) = r + y1 by omega]
    · simp only [dpre, decide_eq_true_eq, e1, e2]
      omega
    · simp only [dpost, dpostV, e1]
      rw [show q * y1 - y1 + (r + y1) = q * y1 + r by omega]
  · have hd : digit y1 y0 u (q * y1 + r) = q := digit_of hy (by omega) (by omega)
    simp only [dpost, dpostV, hd]
    rw [show q * y1 + r - q * y1 = r by omega]
end Go.Ab
/- math/bits.Div64: its two loops. -/
namespace Go.Ab
open Go Go.Proofs
def blkOf (f : Func) (id : Nat) : Code := (((blocksOf (f.body.getD .skip)).find? (fun p => Nat.beq p.1 id)).getD (0, .skip)).2
def loopOf : Code → Code | .loop c => c | c => c
def d64a : Slots := [(9, .int .u64), (10, .int .u64), (13, .int .u64), (15, .int .u64), (16, .int .u64)]
def d64b : Slots := [(9, .int .u64), (10, .int .u64), (14, .int .u64), (18, .int .u64), (16, .int .u64)]
def dtree (N id : Nat) (sl : Slots) (G : List Nat) (y1 y0 u q r : Int) (x : Nat → AV) (heap : Hp) (lo hi step : Nat) : Option (Ex × St) :=
  bif decide (q ≥ 4294967296) then
    bif decide (IntKind.u64.wrap (r + y1) ≥ 4294967296) then some (.exit id, lpSt N sl G [y1, y0, u, IntKind.u64.wrap (q - 1), IntKind.u64.wrap (r + y1)] x heap lo hi step)
    else some (.normal, lpSt N sl G [y1, y0, u, IntKind.u64.wrap (q - 1), IntKind.u64.wrap (r + y1)] x heap lo hi step)
  else bif decide (IntKind.u64.wrap (q * y0) > IntKind.u64.wrap (IntKind.u64.wrap (4294967296 * r) + u)) then
    bif decide (IntKind.u64.wrap (r + y1) ≥ 4294967296) then some (.exit id, lpSt N sl G [y1, y0, u, IntKind.u64.wrap (q - 1), IntKind.u64.wrap (r + y1)] x heap lo hi step)
    else some (.normal, lpSt N sl G [y1, y0, u, IntKind.u64.wrap (q - 1), IntKind.u64.wrap (r + y1)] x heap lo hi step)
  else some (.exit id, lpSt N sl G [y1, y0, u, q, r] x heap lo hi step)
theorem round0 (y1 y0 u q r : Int) (x : Nat → AV) (heap : Hp) (lo hi step : Nat) :
    run Try.prog (callN Try.prog { gam := [] } 1) 135 {} [] 50 (Ex × St) (loopOf (blkOf Try.f146 0)) (lpSt 135 d64a (nums 67 19) [y1, y0, u, q, r] x heap lo hi step) (fun e s' => some (e, maskSt (nums 67 19) s')) =
      dtree 135 0 d64a (nums 67 19) y1 y0 u q r x heap lo hi step := by kernel_rfl
theorem round2 (y1 y0 u q r : Int) (x : Nat → AV) (heap : Hp) (lo hi step : Nat) :
    run Try.prog (callN Try.prog { gam := [] } 1) 135 {} [] 50 (Ex × St) (loopOf (blkOf Try.f146 2)) (lpSt 135 d64b (nums 102 19) [y1, y0, u, q, r] x heap lo hi step) (fun e s' => some (e, maskSt (nums 102 19) s')) =
      dtree 135 2 d64b (nums 102 19) y1 y0 u q r x heap lo hi step := by kernel_rfl
theorem dtree_ok {N id : Nat} {sl : Slots} {G : List Nat} (hsl : shLen sl = 5) {F : List Int → (Nat → AV) → Hp → Nat → Nat → Nat → Option (Ex × St)}
    (hF : ∀ y1 y0 u q r x heap lo hi step, F [y1, y0, u, q, r] x heap lo hi step = dtree N id sl G y1 y0 u q r x heap lo hi step) :
    ∀ xs, xs.length = shLen sl → dpre xs = true → ∀ x heap lo hi step,
      (∃ ys, ys.length = shLen sl ∧ dpre ys = true ∧ (ys.getD 3 0).toNat < (xs.getD 3 0).toNat ∧ dpost ys = dpost xs ∧ F xs x heap lo hi step = some (.normal, lpSt N sl G ys x heap lo hi step)) ∨
      F xs x heap lo hi step = some (.exit id, lpSt N sl G (dpost xs) x heap lo hi step) := by
  intro xs hlen hp x heap lo hi step
  rw [hsl] at hlen
  obtain ⟨y1, y0, u, q, r, rfl⟩ : ∃ y1 y0 u q r, xs = [y1, y0, u, q, r] := by
    match xs, hlen with
    | [a, b, c, d, e], _ => exact ⟨a, b, c, d, e, rfl⟩
  obtain ⟨hs, he⟩ := dstep hp
  have hp' := hp
  simp only [dpre, decide_eq_true_eq] at hp'
  obtain ⟨a1, a2, a3, a4, a5, a6, a7, a8, a9, a10, a11, a12⟩ := hp'
  rw [hF]
  unfold dtree
  have w1 : IntKind.u64.wrap (r + y1) = r + y1 := wrap_u64_id (by omega) (by omega)
  rw [w1]
  have more : (q ≥ 4294967296 ∨ q * y0 > 4294967296 * r + u) → (∃ ys, ys.length = shLen sl ∧ dpre ys = true ∧ (ys.getD 3 0).toNat < ([y1, y0, u, q, r].getD 3 0).toNat ∧ dpost ys = dpost [y1, y0, u, q, r] ∧ (bif decide (r + y1 ≥ 4294967296) then some (Ex.exit id, lpSt N sl G [y1, y0, u, IntKind.u64.wrap (q - 1), r + y1] x heap lo hi step)
    else some (.normal, lpSt N sl G [y1, y0, u, IntKind.u64.wrap (q - 1), r + y1] x heap lo hi step)) = some (.normal, lpSt N sl G ys x heap lo hi step)) ∨ (bif decide (r + y1 ≥ 4294967296) then some (Ex.exit id, lpSt N sl G [y1, y0, u, IntKind.u64.wrap (q - 1), r + y1] x heap lo hi step)
    else some (.normal, lpSt N sl G [y1, y0, u, IntKind.u64.wrap (q - 1), r + y1] x heap lo hi step)) = some (.exit id, lpSt N sl G (dpost [y1, y0, u, q, r]) x heap lo hi step) := by
    intro hc
    obtain ⟨h1, h2, h3⟩ := hs hc
    rw [wrap_u64_id (z := q - 1) (by omega) (by omega)]
    by_cases hr : r + y1 ≥ 4294967296
    · refine .inr ?_
      simp only [hr, decide_true, cond_true]
      rw [h2 hr]
    · refine .inl ⟨[y1, y0, u, q - 1, r + y1], by rw [hsl]; rfl, (h3 (by omega)).1, ?_, (h3 (by omega)).2, ?_⟩
      · simp only [List.getD_cons_succ, List.getD_cons_zero]; omega
      · simp only [hr, decide_false, cond_false]
  by_cases hq : q ≥ 4294967296
  · simp only [hq, decide_true, cond_true]
    exact more (.inl hq)
  · simp only [hq, decide_false, cond_false]
    have b1 : q * y0 ≤ 4294967295 * 4294967295 := Int.le_trans (Int.mul_le_mul_of_nonneg_right (by omega) a3) (Int.mul_le_mul_of_nonneg_left (by omega) (by omega))
    have b0 : 0 ≤ q * y0 := Int.mul_nonneg a7 a3
    rw [wrap_u64_id (z := q * y0) b0 (by omega), wrap_u64_id (z := 4294967296 * r) (by omega) (by omega), wrap_u64_id (z := 4294967296 * r + u) (by omega) (by omega)]
    by_cases hc : q * y0 > 4294967296 * r + u
    · simp only [hc, decide_true, cond_true]
      exact more (.inr hc)
    · simp only [hc, decide_false, cond_false]
      refine .inr ?_
      rw [he (by omega) (by omega)]
def d64h : Hints := [(0, lpHint 135 d64a (nums 67 19) dpre dpost), (2, lpHint 135 d64b (nums 102 19) dpre dpost)]
theorem d64blocks : blocksOf (Try.f146.body.getD .skip) = [(0, .loop (loopOf (blkOf Try.f146 0))), (1, blkOf Try.f146 1), (2, .loop (loopOf (blkOf Try.f146 2))), (3, blkOf Try.f146 3)] := by kernel_rfl
theorem d64fit : ∀ fn c, Try.prog.funcs[146]? = some fn → fn.body = some c → HFit Try.prog fn.ntmps d64h c := by
  intro fn c hf hb
  rw [Try.func146] at hf
  cases hf
  have hn : Try.f146.ntmps = 135 := by kernel_rfl
  have hc : Try.f146.body.getD .skip = c := by rw [hb]; rfl
  rw [hn]
  have hL := d64blocks
  rw [hc] at hL
  have hcall : ∀ β, CallOk Try.prog (callN Try.prog { gam := [] } 1 β) := callN_ok GamOk.nil 1
  refine HFit.of fun p hp h hh s s' hs => ?_
  rw [hL] at hp
  simp only [List.mem_cons, List.not_mem_nil, or_false] at hp
  rcases hp with rfl | rfl | rfl | rfl
  · have : h = lpHint 135 d64a (nums 67 19) dpre dpost := (Option.some.inj hh).symm
    subst this
    exact lp_ok hcall (F := 50) (wy := {}) (fun xs => (xs.getD 3 0).toNat) (dtree_ok rfl (F := fun xs x heap lo hi step => run Try.prog (callN Try.prog { gam := [] } 1) 135 {} [] 50 (Ex × St) (loopOf (blkOf Try.f146 0)) (lpSt 135 d64a (nums 67 19) xs x heap lo hi step) (fun e s' => some (e, maskSt (nums 67 19) s'))) round0) s s' hs
  · simp [findH, d64h] at hh
  · have : h = lpHint 135 d64b (nums 102 19) dpre dpost := (Option.some.inj hh).symm
    subst this
    exact lp_ok hcall (F := 50) (wy := {}) (fun xs => (xs.getD 3 0).toNat) (dtree_ok rfl (F := fun xs x heap lo hi step => run Try.prog (callN Try.prog { gam := [] } 1) 135 {} [] 50 (Ex × St) (loopOf (blkOf Try.f146 2)) (lpSt 135 d64b (nums 102 19) xs x heap lo hi step) (fun e s' => some (e, maskSt (nums 102 19) s'))) round2) s s' hs
  · simp [findH, d64h] at hh
end Go.Ab
/- math/bits.Div64: what it computes, on the way that its text goes. -/
namespace Go.Ab
open Go Go.Proofs
def shI (a s : Int) : Int := IntKind.u64.wrap (a * 2 ^ min s.toNat IntKind.u64.bits)
def srI (a s : Int) : Int := a.fdiv (2 ^ min s.toNat IntKind.u64.bits)
def orI (a b : Int) : Int := IntKind.u64.wrap (((BitVec.ofInt IntKind.u64.bits a ||| BitVec.ofInt IntKind.u64.bits b).toNat : Nat) : Int)
def andI (a b : Int) : Int := IntKind.u64.wrap (((BitVec.ofInt IntKind.u64.bits a &&& BitVec.ofInt IntKind.u64.bits b).toNat : Nat) : Int)
def guess (U y1 : Int) : Int := IntKind.u64.wrap (U.tdiv y1)
def rest (U y1 : Int) : Int := IntKind.u64.wrap (U - IntKind.u64.wrap (guess U y1 * y1))
def low (U u q y : Int) : Int := IntKind.u64.wrap (IntKind.u64.wrap (IntKind.u64.wrap (U * 4294967296) + u) - IntKind.u64.wrap (q * y))
def d64tail (p : List Int → Bool) (Q : Int → Int → Int → Int → Int → Int) (s y' y1 y0 un32 un1 un0 : Int) : Option (AV × List Con) :=
  bif y1 == 0 then none else
  bif p [y1, y0, un1, guess un32 y1, rest un32 y1] then
    bif y1 == 0 then none else
    bif p [y1, y0, un0, guess (low un32 un1 (Q y1 y0 un1 (guess un32 y1) (rest un32 y1)) y') y1, rest (low un32 un1 (Q y1 y0 un1 (guess un32 y1) (rest un32 y1)) y') y1] then
      bif decide (s < 0) then none else
        some (.val (.tuple #[.int .u64 (IntKind.u64.wrap (IntKind.u64.wrap (Q y1 y0 un1 (guess un32 y1) (rest un32 y1) * 4294967296) +
            Q y1 y0 un0 (guess (low un32 un1 (Q y1 y0 un1 (guess un32 y1) (rest un32 y1)) y') y1) (rest (low un32 un1 (Q y1 y0 un1 (guess un32 y1) (rest un32 y1)) y') y1))),
          .int .u64 (srI (low (low un32 un1 (Q y1 y0 un1 (guess un32 y1) (rest un32 y1)) y') un0
            (Q y1 y0 un0 (guess (low un32 un1 (Q y1 y0 un1 (guess un32 y1) (rest un32 y1)) y') y1) (rest (low un32 un1 (Q y1 y0 un1 (guess un32 y1) (rest un32 y1)) y') y1)) y') s)]), [])
    else none
  else none
theorem d64tree (pz : Int → Bool) (lz : Int → Int) (p : List Int → Bool) (Q R : Int → Int → Int → Int → Int → Int) (h l y : Int) :
    fnSum Try.prog { gam := [(148, S0c (fun (a : U6 × Unit) => pz a.1.n) fun a => lz a.1.n)] } [(0, lpHint 135 d64a (nums 67 19) p (dpostV Q R)), (2, lpHint 135 d64b (nums 102 19) p (dpostV Q R))] 20 146 [.val (.int .u64 h), .val (.int .u64 l), .val (.int .u64 y)] [] =
      bif y == 0 then none else bif decide (y ≤ h) then none else
        bif h == 0 then bif y == 0 then none else bif y == 0 then none else some (.val (.tuple #[.int .u64 (IntKind.u64.wrap (l.tdiv y)), .int .u64 (l.tmod y)]), [])
        else bif pz y then bif decide (IntKind.u64.wrap (lz y) < 0) then none else bif decide (IntKind.u64.wrap (lz y) < 0) then none else bif decide (IntKind.u64.wrap (64 - IntKind.u64.wrap (lz y)) < 0) then none else bif decide (IntKind.u64.wrap (lz y) < 0) then none else
          d64tail p Q (IntKind.u64.wrap (lz y)) (shI y (IntKind.u64.wrap (lz y))) (srI (shI y (IntKind.u64.wrap (lz y))) 32) (andI (shI y (IntKind.u64.wrap (lz y))) 4294967295)
            (orI (shI h (IntKind.u64.wrap (lz y))) (srI l (IntKind.u64.wrap (64 - IntKind.u64.wrap (lz y))))) (srI (shI l (IntKind.u64.wrap (lz y))) 32) (andI (shI l (IntKind.u64.wrap (lz y))) 4294967295) else none := by kernel_rfl
end Go.Ab
/- math/bits.Div64 is the quotient and what is left. -/
namespace Go.Ab
open Go Go.Proofs
theorem low_eq (U u q y : Int) : low U u q y = (U * 4294967296 + u - q * y) % 18446744073709551616 := by
  unfold low
  simp only [wrap_u64]
  omega
theorem guess_eq {U y1 : Int} (hU : 0 ≤ U) (hU2 : U < 18446744073709551616) (hy : 0 < y1) : guess U y1 = U / y1 ∧ rest U y1 = U % y1 := by
  have h1 : U.tdiv y1 = U / y1 := Int.tdiv_eq_ediv_of_nonneg hU
  have h2 : 0 ≤ U / y1 := Int.ediv_nonneg hU (by omega)
  have h3 : U / y1 ≤ U := Int.ediv_le_self _ hU
  have h4 : U / y1 * y1 ≤ U := Int.ediv_mul_le U (by omega)
  have h5 : 0 ≤ U / y1 * y1 := Int.mul_nonneg h2 (by omega)
  have h6 : U % y1 = U - U / y1 * y1 := by
    have := Int.emod_add_mul_ediv U y1
    rw [Int.mul_comm] at this
    omega
  have g : guess U y1 = U / y1 := by unfold guess; rw [h1, wrap_u64_id h2 (by omega)]
  refine ⟨g, ?_⟩
  unfold rest
  rw [g, wrap_u64_id h5 (by omega), wrap_u64_id (by omega) (by omega), h6]
theorem digit_step {y1 y0 u U D : Int} (hD : D = y1 * 4294967296 + y0) (a1 : 2147483648 ≤ y1) (a2 : y1 < 4294967296) (a3 : 0 ≤ y0) (a4 : y0 < 4294967296) (a5 : 0 ≤ u) (a6 : u < 4294967296) (hU : 0 ≤ U) (hU2 : U < D) :
    dpre [y1, y0, u, guess U y1, rest U y1] = true ∧ digit y1 y0 u (guess U y1 * y1 + rest U y1) = (U * 4294967296 + u) / D ∧ low U u ((U * 4294967296 + u) / D) D = (U * 4294967296 + u) % D ∧
      0 ≤ (U * 4294967296 + u) / D ∧ (U * 4294967296 + u) / D < 4294967296 ∧ 0 ≤ (U * 4294967296 + u) % D ∧ (U * 4294967296 + u) % D < D := by
  obtain ⟨g1, g2⟩ := guess_eq (U := U) (y1 := y1) hU (by omega) (by omega)
  have hD0 : 0 < D := by omega
  have e1 : U / y1 * y1 + U % y1 = U := Int.ediv_mul_add_emod U y1
  have r0 := Int.emod_nonneg U (b := y1) (by omega)
  have r1 := Int.emod_lt_of_pos U (b := y1) (by omega)
  have q0 : 0 ≤ U / y1 := Int.ediv_nonneg hU (by omega)
  have q1 : U / y1 ≤ U := Int.ediv_le_self _ hU
  have c0 : 0 ≤ U / y1 * y0 := Int.mul_nonneg q0 a3
  have m0 := Int.emod_nonneg (U * 4294967296 + u) (b := D) (by omega)
  have m1 := Int.emod_lt_of_pos (U * 4294967296 + u) (b := D) hD0
  have m2 : (U * 4294967296 + u) / D * D + (U * 4294967296 + u) % D = U * 4294967296 + u := Int.ediv_mul_add_emod _ _
  refine ⟨?_, ?_, ?_, Int.ediv_nonneg (by omega) (by omega), ?_, m0, m1⟩
  · rw [g1, g2]
    simp only [dpre, decide_eq_true_eq]
    omega
  · rw [g1, g2, e1]
    unfold digit
    rw [← hD]
  · rw [low_eq]
    generalize (U * 4294967296 + u) / D * D = X at m2 ⊢
    omega
  · exact Int.ediv_lt_of_lt_mul hD0 (by omega)
theorem shI_eq (a : Int) (s : Nat) (hs : s ≤ 64) : shI a s = a * 2 ^ s % 18446744073709551616 := by
  unfold shI
  rw [wrap_u64, Int.toNat_natCast, show min s IntKind.u64.bits = s from Nat.min_eq_left hs]
theorem srI_eq (a : Int) (s : Nat) (hs : s ≤ 64) : srI a s = a / 2 ^ s := by
  unfold srI
  rw [Int.toNat_natCast, show min s IntKind.u64.bits = s from Nat.min_eq_left hs]
  exact Int.fdiv_eq_ediv_of_nonneg _ (Int.pow_nonneg (by omega))
theorem srI_32 (a : Int) : srI a 32 = a / 4294967296 := srI_eq a 32 (by omega)
theorem andI_eq (a : Int) (h0 : 0 ≤ a) (h1 : a < 18446744073709551616) : andI a 4294967295 = a % 4294967296 := by
  unfold andI
  have e : (BitVec.ofInt IntKind.u64.bits a &&& BitVec.ofInt IntKind.u64.bits 4294967295).toNat = a.toNat % 4294967296 := by
    rw [BitVec.toNat_and, BitVec.toNat_ofInt, BitVec.toNat_ofInt]
    have e1 : (a % ((2 ^ IntKind.u64.bits : Nat) : Int)).toNat = a.toNat := by
      rw [show ((2 ^ IntKind.u64.bits : Nat) : Int) = 18446744073709551616 by decide, Int.emod_eq_of_lt h0 h1]
    have e2 : ((4294967295 : Int) % ((2 ^ IntKind.u64.bits : Nat) : Int)).toNat = 2 ^ 32 - 1 := by decide
    rw [e1, e2, Nat.and_two_pow_sub_one_eq_mod]
  rw [e, wrap_u64_id (by omega) (by omega)]
  omega
theorem orI_eq (k b : Int) (s : Nat) (hk : 0 ≤ k) (hb : 0 ≤ b) (hb2 : b < 2 ^ s) (h : k * 2 ^ s + b < 18446744073709551616) : orI (k * 2 ^ s) b = k * 2 ^ s + b := by
  unfold orI
  have hz : (0 : Int) < 2 ^ s := Int.pow_pos (by omega)
  have hkz : 0 ≤ k * 2 ^ s := Int.mul_nonneg hk (by omega)
  have e : (BitVec.ofInt IntKind.u64.bits (k * 2 ^ s) ||| BitVec.ofInt IntKind.u64.bits b).toNat = (k * 2 ^ s + b).toNat := by
    rw [BitVec.toNat_or, BitVec.toNat_ofInt, BitVec.toNat_ofInt, show ((2 ^ IntKind.u64.bits : Nat) : Int) = 18446744073709551616 by decide, Int.emod_eq_of_lt hkz (by omega), Int.emod_eq_of_lt hb (by omega)]
    have hp : ((2 : Int) ^ s) = ((2 ^ s : Nat) : Int) := by simp
    have e1 : (k * 2 ^ s).toNat = 2 ^ s * k.toNat := by
      rw [hp, Int.toNat_mul hk (by omega), Int.toNat_natCast, Nat.mul_comm]
    have e2 : (k * 2 ^ s + b).toNat = 2 ^ s * k.toNat + b.toNat := by
      rw [Int.toNat_add hkz hb, e1]
    rw [e1, e2, Nat.two_pow_add_eq_or_of_lt]
    have : (b.toNat : Int) < ((2 ^ s : Nat) : Int) := by rw [← hp]; omega
    exact Int.ofNat_lt.1 this
  rw [e, wrap_u64_id (by omega) (by omega)]
  omega
theorem d64_val {h l y : Int} {s : Nat} (hs : s < 64) (h0 : 0 ≤ h) (hy : h < y) (l0 : 0 ≤ l) (l1 : l < 18446744073709551616) (n1 : 9223372036854775808 ≤ y * 2 ^ s) (n2 : y * 2 ^ s < 18446744073709551616) :
    d64tail dpre (fun y1 y0 u q r => digit y1 y0 u (q * y1 + r)) s (shI y s) (srI (shI y s) 32) (andI (shI y s) 4294967295) (orI (shI h s) (srI l ((64 - s : Nat) : Int))) (srI (shI l s) 32) (andI (shI l s) 4294967295) =
      some (.val (.tuple #[.int .u64 ((h * 18446744073709551616 + l) / y), .int .u64 ((h * 18446744073709551616 + l) % y)]), []) := by
  have hz : (0 : Int) < 2 ^ s := Int.pow_pos (by omega)
  have hw : (0 : Int) < 2 ^ (64 - s) := Int.pow_pos (by omega)
  have hzw : (2 : Int) ^ s * 2 ^ (64 - s) = 18446744073709551616 := by rw [← Int.pow_add, show s + (64 - s) = 64 by omega]; decide
  rw [shI_eq y s (by omega), shI_eq h s (by omega), shI_eq l s (by omega), srI_eq l (64 - s) (by omega)]
  rw [srI_32, srI_32, andI_eq _ (Int.emod_nonneg _ (by omega)) (Int.emod_lt_of_pos _ (by omega)), andI_eq _ (Int.emod_nonneg _ (by omega)) (Int.emod_lt_of_pos _ (by omega))]
  have hhz : 0 ≤ h * 2 ^ s := Int.mul_nonneg h0 (by omega)
  have hhy : h * 2 ^ s + 2 ^ s ≤ y * 2 ^ s := by
    have : (h + 1) * 2 ^ s ≤ y * 2 ^ s := Int.mul_le_mul_of_nonneg_right (by omega) (by omega)
    rw [Int.add_mul, Int.one_mul] at this
    exact this
  have lw0 : 0 ≤ l / 2 ^ (64 - s) := Int.ediv_nonneg l0 (by omega)
  have lw1 : l / 2 ^ (64 - s) < 2 ^ s := Int.ediv_lt_of_lt_mul hw (by rw [hzw]; exact l1)
  rw [Int.emod_eq_of_lt (a := y * 2 ^ s) (by omega) n2, Int.emod_eq_of_lt (a := h * 2 ^ s) hhz (by omega), orI_eq h _ s h0 lw0 lw1 (by omega)]
  -- the low word
  have hl : l / 2 ^ (64 - s) * 2 ^ (64 - s) + l % 2 ^ (64 - s) = l := Int.ediv_mul_add_emod l _
  have lm0 := Int.emod_nonneg l (b := 2 ^ (64 - s)) (by omega)
  have lm1 := Int.emod_lt_of_pos l hw
  have hl2 : l * 2 ^ s = l / 2 ^ (64 - s) * 18446744073709551616 + l % 2 ^ (64 - s) * 2 ^ s := by
    calc l * 2 ^ s = (l / 2 ^ (64 - s) * 2 ^ (64 - s) + l % 2 ^ (64 - s)) * 2 ^ s := by rw [hl]
      _ = l / 2 ^ (64 - s) * 18446744073709551616 + l % 2 ^ (64 - s) * 2 ^ s := by rw [Int.add_mul, Int.mul_assoc, Int.mul_comm (2 ^ (64 - s)) (2 ^ s), hzw]
  have lz0 : 0 ≤ l % 2 ^ (64 - s) * 2 ^ s := Int.mul_nonneg lm0 (by omega)
  have lz1 : l % 2 ^ (64 - s) * 2 ^ s < 18446744073709551616 := by
    have : l % 2 ^ (64 - s) * 2 ^ s < 2 ^ (64 - s) * 2 ^ s := Int.mul_lt_mul_of_pos_right lm1 hz
    rw [Int.mul_comm (2 ^ (64 - s)) (2 ^ s), hzw] at this
    exact this
  have hL : l * 2 ^ s % 18446744073709551616 = l % 2 ^ (64 - s) * 2 ^ s := by rw [hl2]; omega
  rw [hL]
  generalize hD : y * 2 ^ s = D at *
  generalize hLL : l % 2 ^ (64 - s) * 2 ^ s = L at *
  generalize hU : h * 2 ^ s + l / 2 ^ (64 - s) = U at *
  have hM : U * 18446744073709551616 + L = (h * 18446744073709551616 + l) * 2 ^ s := by
    rw [Int.add_mul, hl2, ← hU, Int.add_mul, Int.mul_assoc h, Int.mul_assoc h, Int.mul_comm (2 ^ s)]
    omega
  obtain ⟨p1, p2, p3, p4, p5, p6, p7⟩ := digit_step (y1 := D / 4294967296) (y0 := D % 4294967296) (u := L / 4294967296) (U := U) (D := D) (by omega) (by omega) (by omega) (by omega) (by omega) (by omega) (by omega) (by omega) (by omega)
  obtain ⟨k1, k2, k3, k4, k5, k6, k7⟩ := digit_step (y1 := D / 4294967296) (y0 := D % 4294967296) (u := L % 4294967296) (U := (U * 4294967296 + L / 4294967296) % D) (D := D) (by omega) (by omega) (by omega) (by omega) (by omega) (by omega) (by omega) p6 p7
  have y1n : (D / 4294967296 == 0) = false := by simp; omega
  unfold d64tail
  dsimp only
  rw [y1n, p1, p2, p3, k1, k2, k3]
  simp only [cond_false, cond_true]
  have hsn : decide ((s : Int) < 0) = false := by simp
  rw [hsn, cond_false, srI_eq _ s (by omega)]
  have m1 : (U * 4294967296 + L / 4294967296) / D * D + (U * 4294967296 + L / 4294967296) % D = U * 4294967296 + L / 4294967296 := Int.ediv_mul_add_emod _ _
  have m2 : ((U * 4294967296 + L / 4294967296) % D * 4294967296 + L % 4294967296) / D * D + ((U * 4294967296 + L / 4294967296) % D * 4294967296 + L % 4294967296) % D = (U * 4294967296 + L / 4294967296) % D * 4294967296 + L % 4294967296 := Int.ediv_mul_add_emod _ _
  generalize (U * 4294967296 + L / 4294967296) / D = Q1 at *
  generalize ((U * 4294967296 + L / 4294967296) % D * 4294967296 + L % 4294967296) / D = Q0 at *
  generalize ((U * 4294967296 + L / 4294967296) % D * 4294967296 + L % 4294967296) % D = R at *
  rw [wrap_u64_id (z := Q1 * 4294967296) (by omega) (by omega), wrap_u64_id (by omega) (by omega)]
  -- the quotient and the rest
  have key : (h * 18446744073709551616 + l) * 2 ^ s = (Q1 * 4294967296 + Q0) * D + R := by
    rw [← hM, Int.add_mul, Int.mul_right_comm]
    omega
  generalize hN : h * 18446744073709551616 + l = N at *
  generalize hQ : Q1 * 4294967296 + Q0 = Q at *
  have key2 : R = (N - Q * y) * 2 ^ s := by
    rw [Int.sub_mul, key, Int.mul_assoc, hD]; omega
  have key3 : R / 2 ^ s = N - Q * y := by rw [key2, Int.mul_ediv_cancel _ (by omega)]
  have b0 : 0 ≤ N - Q * y := by rw [← key3]; exact Int.ediv_nonneg k6 (by omega)
  have b1 : N - Q * y < y := by
    have : (N - Q * y) * 2 ^ s < y * 2 ^ s := by rw [← key2, hD]; exact k7
    exact Int.lt_of_mul_lt_mul_right this (by omega)
  have hy0 : 0 < y := by omega
  have hq : N / y = Q := by
    refine Int.le_antisymm ?_ ?_
    · refine Int.lt_add_one_iff.1 (Int.ediv_lt_of_lt_mul hy0 ?_)
      rw [Int.add_mul, Int.one_mul]; omega
    · exact (Int.le_ediv_iff_mul_le hy0).2 (by omega)
  have hr : N % y = N - Q * y := by
    have := Int.ediv_mul_add_emod N y
    rw [hq] at this
    omega
  rw [key3, hq, hr]
end Go.Ab
/- The shelf's contracts at this dump (math/bits: LeadingZeros64, Len64, Mul64), as the kit's tool laid them; no statement, no condition. -/
namespace Go.Proofs
open Go.Shelf
def Try.lays134_ren : Go.Shelf.Ren := ⟨fun | 134 => 148 | 129 => 150 | n => n, fun | 53 => 136 | 3 => 3 | 4 => 4 | 46 => 149 | 5 => 5 | 9 => 9 | n => n, fun | n => n⟩
theorem Try.lays134 : Go.Proofs.Lays.n134 Try.prog Try.lays134_ren := {
  mixed := by kernel_rfl
  f129 := Try.func150.trans (congrArg some (by kernel_rfl))
  f134 := Try.func148.trans (congrArg some (by kernel_rfl))
  t3 := Try.underlying3
  a3 := Try.isAgg3
  z3 := Try.sizeOf3
  v3 := Try.zeroValue3
  t4 := Try.underlying4
  a4 := Try.isAgg4
  z4 := Try.sizeOf4
  v4 := Try.zeroValue4
  t5 := Try.underlying5
  a5 := Try.isAgg5
  z5 := Try.sizeOf5
  v5 := Try.zeroValue5
  t9 := Try.underlying9
  a9 := Try.isAgg9
  z9 := Try.sizeOf9
  v9 := Try.zeroValue9
  t46 := Try.underlying149
  a46 := Try.isAgg149
  z46 := Try.sizeOf149
  v46 := Try.zeroValue149
  t53 := Try.underlying136
  a53 := Try.isAgg136
  z53 := Try.sizeOf136
  v53 := Try.zeroValue136 }
theorem Try.bits_LeadingZeros64 (x : Int) (w : World) (h0 : 0 ≤ x) (h1 : x ≤ 18446744073709551615) :
    Calls Try.prog 148 #[.int .u64 x] w fun e w' => e = .returned (.int .i64 (64 - (Lib.bitLen x.toNat : Int))) ∧ w' = w := Any.bits_LeadingZeros64 Try.lays134 x w h0 h1
def Try.lays264_ren : Go.Shelf.Ren := ⟨fun | 264 => 131 | n => n, fun | 53 => 136 | 46 => 149 | n => n, fun | n => n⟩
theorem Try.lays264 : Go.Proofs.Lays.n264 Try.prog Try.lays264_ren := {
  mixed := by kernel_rfl
  f264 := Try.func131.trans (congrArg some (by kernel_rfl))
  t46 := Try.underlying149
  a46 := Try.isAgg149
  z46 := Try.sizeOf149
  v46 := Try.zeroValue149
  t53 := Try.underlying136
  a53 := Try.isAgg136
  z53 := Try.sizeOf136
  v53 := Try.zeroValue136 }
open Go.RowKit Go.Lib in
theorem Try.bits_Mul64 (x y : Nat) (hx : x < 18446744073709551616) (hy : y < 18446744073709551616) (w : World) :
    Calls Try.prog 131 #[.int .u64 x, .int .u64 y] w fun e w' => e = .returned (.tuple #[.int .u64 ((x * y / 18446744073709551616 : Nat) : Int), .int .u64 ((x * y % 18446744073709551616 : Nat) : Int)]) ∧ w' = w := Any.bits_Mul64 Try.lays264 x y hx hy w
end Go.Proofs
/- math/bits: Mul64, LeadingZeros64, Div64 as summaries. -/
namespace Go.Ab
open Go Go.Proofs
def word (x : Int) : Bool := decide (0 ≤ x ∧ x < 18446744073709551616)
def mulPre (a : U6 × U6 × Unit) : Bool := word a.1.n && word a.2.1.n
def mulVal (a : U6 × U6 × Unit) : Two U6 U6 := ⟨⟨a.1.n * a.2.1.n / 18446744073709551616⟩, ⟨a.1.n * a.2.1.n % 18446744073709551616⟩⟩
theorem ok176 : SumOk Try.prog 131 (S0c mulPre mulVal) := by
  refine S0c_quiet (fun a => [.int .u64 a.1.n, .int .u64 a.2.1.n]) (fun a => rfl) fun a hp w => ?_
  obtain ⟨⟨x⟩, ⟨y⟩, _⟩ := a
  simp only [mulPre, word, Bool.and_eq_true, decide_eq_true_eq] at hp
  have h := Try.bits_Mul64 x.toNat y.toNat (by omega) (by omega) w
  have ex : ((x.toNat : Nat) : Int) = x := by omega
  have ey : ((y.toNat : Nat) : Int) = y := by omega
  have e1 : ((x.toNat * y.toNat / 18446744073709551616 : Nat) : Int) = x * y / 18446744073709551616 := by rw [Int.natCast_ediv, Int.natCast_mul, ex, ey]; rfl
  have e2 : ((x.toNat * y.toNat % 18446744073709551616 : Nat) : Int) = x * y % 18446744073709551616 := by rw [Int.natCast_emod, Int.natCast_mul, ex, ey]; rfl
  rw [e1, e2, ex, ey] at h
  exact h
def lzVal (x : Int) : Int := 64 - (Lib.bitLen x.toNat : Int)
theorem ok185 : SumOk Try.prog 148 (S0c (fun (a : U6 × Unit) => word a.1.n) fun a => lzVal a.1.n) := by
  refine S0c_quiet (fun a => [.int .u64 a.1.n]) (fun a => rfl) fun a hp w => ?_
  obtain ⟨⟨x⟩, _⟩ := a
  simp only [word, decide_eq_true_eq] at hp
  exact Try.bits_LeadingZeros64 x w hp.1 (by omega)
def divPre (a : U6 × U6 × U6 × Unit) : Bool := decide (0 ≤ a.1.n ∧ a.1.n < a.2.2.1.n ∧ 0 ≤ a.2.1.n ∧ a.2.1.n < 18446744073709551616 ∧ a.2.2.1.n < 18446744073709551616)
def divVal (a : U6 × U6 × U6 × Unit) : Two U6 U6 := ⟨⟨(a.1.n * 18446744073709551616 + a.2.1.n) / a.2.2.1.n⟩, ⟨(a.1.n * 18446744073709551616 + a.2.1.n) % a.2.2.1.n⟩⟩
theorem ok183 : SumOk Try.prog 146 (S0c divPre divVal) := by
  have hG : GamOk Try.prog [(148, S0c (fun (a : U6 × Unit) => word a.1.n) fun a => lzVal a.1.n)] := .cons ok185 .nil
  refine S0c_okH (E := { gam := [(148, S0c (fun (a : U6 × Unit) => word a.1.n) fun a => lzVal a.1.n)] }) hG (hB := d64h) d64fit 20 fun a hp => ?_
  obtain ⟨⟨h⟩, ⟨l⟩, ⟨y⟩, _⟩ := a
  simp only [divPre, decide_eq_true_eq] at hp
  obtain ⟨h0, hy, l0, l1, y1⟩ := hp
  refine (d64tree word lzVal dpre (fun y1 y0 u q r => digit y1 y0 u (q * y1 + r)) (fun y1 y0 u q r => q * y1 + r - digit y1 y0 u (q * y1 + r) * y1) h l y).trans ?_
  have t1 : (y == 0) = false := by simp; omega
  have t2 : decide (y ≤ h) = false := by simp; omega
  rw [t1, t2]
  simp only [cond_false]
  by_cases hh : h = 0
  · subst hh
    simp only [BEq.rfl, cond_true]
    have e1 : IntKind.u64.wrap (l.tdiv y) = (0 * 18446744073709551616 + l) / y := by
      have a1 := Int.ediv_le_self (a := l) y l0
      have a2 : 0 ≤ l / y := Int.ediv_nonneg l0 (by omega)
      rw [Int.tdiv_eq_ediv_of_nonneg l0, wrap_u64_id a2 (by omega)]
      congr 1
      omega
    have e2 : l.tmod y = (0 * 18446744073709551616 + l) % y := by
      rw [Int.tmod_eq_emod_of_nonneg l0]
      congr 1
      omega
    rw [e1, e2]
    rfl
  · have t3 : (h == 0) = false := by simp; exact hh
    have t4 : word y = true := by simp only [word, decide_eq_true_eq]; omega
    rw [t3, t4]
    simp only [cond_false, cond_true]
    have hyn : y.toNat ≠ 0 := by omega
    obtain ⟨b1, b2, b3⟩ := Lib.bitLenAux_bounds 64 y.toNat (by omega) hyn
    have hb : Lib.bitLen y.toNat ≤ 64 := Lib.bitLen_le y.toNat 64 (by omega) (by omega)
    change 1 ≤ Lib.bitLen y.toNat at b1
    change 2 ^ (Lib.bitLen y.toNat - 1) ≤ y.toNat at b2
    change y.toNat < 2 ^ Lib.bitLen y.toNat at b3
    generalize hk : Lib.bitLen y.toNat = k at *
    have hs : IntKind.u64.wrap (lzVal y) = ((64 - k : Nat) : Int) := by
      unfold lzVal
      rw [hk, wrap_u64_id (by omega) (by omega)]
      omega
    have hs2 : IntKind.u64.wrap (64 - ((64 - k : Nat) : Int)) = ((64 - (64 - k) : Nat) : Int) := by
      rw [wrap_u64_id (by omega) (by omega)]
      omega
    rw [hs, hs2]
    have t5 : decide (((64 - k : Nat) : Int) < 0) = false := by simp
    have t6 : decide (((64 - (64 - k) : Nat) : Int) < 0) = false := by simp
    rw [t5, t6]
    simp only [cond_false]
    have hpow : ∀ n : Nat, ((2 ^ n : Nat) : Int) = (2 : Int) ^ n := fun n => by simp
    refine d64_val (by omega) h0 hy l0 l1 ?_ ?_
    · have : (2 : Int) ^ (k - 1) ≤ y := by
        rw [← hpow]; omega
      have h2 : (2 : Int) ^ (k - 1) * 2 ^ (64 - k) ≤ y * 2 ^ (64 - k) := Int.mul_le_mul_of_nonneg_right this (Int.pow_nonneg (by omega))
      rw [← Int.pow_add, show k - 1 + (64 - k) = 63 by omega] at h2
      exact h2
    · have : y < (2 : Int) ^ k := by
        rw [← hpow]; omega
      have h2 : y * 2 ^ (64 - k) < (2 : Int) ^ k * 2 ^ (64 - k) := Int.mul_lt_mul_of_pos_right this (Int.pow_pos (by omega))
      rw [← Int.pow_add, show k + (64 - k) = 64 by omega] at h2
      exact h2
end Go.Ab
/- fixed's ratio: a b / c, rounded. -/
namespace Go.Ab
open Go Go.Proofs
def xorI (a b : Int) : Int := IntKind.u64.wrap (((BitVec.ofInt IntKind.u64.bits a ^^^ BitVec.ofInt IntKind.u64.bits b).toNat : Nat) : Int)
theorem ratioTree (mp : U6 × U6 × Unit → Bool) (mv : U6 × U6 × Unit → Two U6 U6) (dp : U6 × U6 × U6 × Unit → Bool) (dv : U6 × U6 × U6 × Unit → Two U6 U6) (sz : Int × Unit → Two U6 U6) (gv : Bool → Int × Bool × Unit → Int × Bool) (a b c : Int) (f : Bool) :
    fnSum Try.prog { gam := [(131, S0c mp mv), (146, S0c dp dv), (130, S0 sz), (124, S 25 gv)] } [] 20 123 [.ptr 0 0, .val (.int .i64 a), .val (.int .i64 b), .val (.int .i64 c)] (row 25 f) =
      let x := (sz (a, ())).a.n; let y := (sz (b, ())).a.n; let z := (sz (c, ())).a.n
      let G := fun (m : Int) (ok : Bool) => some (AV.val (.int .i64 (gv f (m, ok, ())).1), row 25 (gv f (m, ok, ())).2)
      let H := (mv (⟨x⟩, ⟨y⟩, ())).a.n; let L := (mv (⟨x⟩, ⟨y⟩, ())).b.n
      let n := (dv (⟨H⟩, ⟨L⟩, ⟨z⟩, ())).a.n; let left := (dv (⟨H⟩, ⟨L⟩, ⟨z⟩, ())).b.n
      let r := xorI (xorI (sz (a, ())).b.n (sz (b, ())).b.n) (sz (c, ())).b.n
      bif mp (⟨x⟩, ⟨y⟩, ()) then bif z == 0 then G 0 false else bif decide (H ≥ z) then G 0 false else
        bif dp (⟨H⟩, ⟨L⟩, ⟨z⟩, ()) then bif decide (n > 4611686018427387904) then G 0 false else
          bif decide (left ≥ IntKind.u64.wrap (z - left)) then
            bif r == 1 then G (IntKind.i64.wrap (0 - IntKind.i64.wrap (IntKind.u64.wrap (n + 1)))) true else G (IntKind.i64.wrap (IntKind.u64.wrap (n + 1))) true
          else bif r == 1 then G (IntKind.i64.wrap (0 - IntKind.i64.wrap n)) true else G (IntKind.i64.wrap n) true
        else none
      else none := by kernel_rfl
theorem sizeTree (a : Int) : fnSum Try.prog { gam := [] } [] 20 130 [.val (.int .i64 a)] [] =
    bif decide (a < 0) then some (.val (.tuple #[.int .u64 (IntKind.u64.wrap (IntKind.i64.wrap (0 - a))), .int .u64 1]), []) else some (.val (.tuple #[.int .u64 (IntKind.u64.wrap a), .int .u64 0]), []) := by kernel_rfl
theorem giveTree (f ok : Bool) (n : Int) : fnSum Try.prog { gam := [] } [] 20 124 [.ptr 0 0, .val (.int .i64 n), .val (.bool ok)] (row 25 f) =
    bif !ok then some (.val (.int .i64 0), row 25 true) else bif decide (n > 4611686018427387904) then some (.val (.int .i64 0), row 25 true) else bif decide (n < -4611686018427387904) then some (.val (.int .i64 0), row 25 true) else some (.val (.int .i64 n), row 25 f) := by kernel_rfl
end Go.Ab
/- fixed's ratio is the rounded quotient. -/
namespace Go.Ab
open Go Go.Proofs
/-- A method of a flow, where a condition on its numbers holds. -/
def Sc {α ω : Type} [Args α] [Cod ω] (e : TypeId) (pre : α → Bool) (g : Bool → α → ω × Bool) : Summary := fun args cs => match args, cs with
  | .ptr 0 0 :: r, [.row e' [.val (.bool b)]] => match Nat.beq e e', Args.decs (α := α) r with
    | true, some a => .test (pre a) (.ret (.val (Cod.enc (g b a).1)) (row e (g b a).2)) .no
    | _, _ => .no
  | _, _ => .no
theorem Sc_sel {α ω : Type} [Args α] [Cod ω] {e : TypeId} {pre : α → Bool} {g : Bool → α → ω × Bool} {args : List AV} {cs cs' : List Con} {r : AV} (h : (Sc e pre g args cs).sel = some (r, cs')) :
    ∃ b a, pre a = true ∧ args = .ptr 0 0 :: Args.encs a ∧ cs = row e b ∧ r = .val (Cod.enc (g b a).1) ∧ cs' = row e (g b a).2 := by
  unfold Sc at h
  split at h
  · split at h
    · rename_i e' b _ _ a h1 h2
      simp only [STr.sel] at h
      cases hp : pre a with
      | false => rw [hp] at h; cases h
      | true =>
        rw [hp] at h
        simp only [cond_true, Option.some.injEq, Prod.mk.injEq] at h
        obtain ⟨rfl, rfl⟩ := h
        refine ⟨b, a, hp, by rw [Args.law _ _ h2], ?_, rfl, rfl⟩
        rw [Nat.eq_of_beq_eq_true h1]; rfl
    · simp [STr.sel] at h
  · simp [STr.sel] at h
theorem Sc_ok {α ω : Type} [Args α] [Cod ω] {P : Program} {E : Env} (hG : GamOk P E.gam) {f : FuncId} {e : TypeId} {pre : α → Bool} {g : Bool → α → ω × Bool} (d : Nat)
    (h : ∀ b a, pre a = true → fnSum P E [] d f (.ptr 0 0 :: Args.encs a) (row e b) = some (.val (Cod.enc (g b a).1), row e (g b a).2)) : SumOk P f (Sc e pre g) := by
  refine sumOk_of hG fun args cs r cs' hs => ?_
  obtain ⟨b, a, hp, rfl, rfl, rfl, rfl⟩ := Sc_sel hs
  exact ⟨by simp [row], d, h b a hp⟩
def iabs (a : Int) : Int := bif decide (a < 0) then 0 - a else a
def sgn (a : Int) : Int := bif decide (a < 0) then 1 else 0
def szV (p : Int × Unit) : Two U6 U6 := ⟨⟨bif decide (p.1 < 0) then IntKind.u64.wrap (IntKind.i64.wrap (0 - p.1)) else IntKind.u64.wrap p.1⟩, ⟨sgn p.1⟩⟩
def gvV (f : Bool) (p : Int × Bool × Unit) : Int × Bool := bif p.2.1 && num p.1 then (p.1, f) else (0, true)
def rnd (N z : Int) : Int := bif decide (N % z ≥ z - N % z) then N / z + 1 else N / z
def neg3 (a b c : Int) : Bool := xor (xor (decide (a < 0)) (decide (b < 0))) (decide (c < 0))
def fratio (f : Bool) (a b c : Int) : Int × Bool :=
  bif iabs c == 0 || decide (iabs a * iabs b / iabs c > 4611686018427387904) || decide (rnd (iabs a * iabs b) (iabs c) > 4611686018427387904) then (0, true)
  else (bif neg3 a b c then 0 - rnd (iabs a * iabs b) (iabs c) else rnd (iabs a * iabs b) (iabs c), f)
def num3 (p : Int × Int × Int × Unit) : Bool := num p.1 && (num p.2.1 && num p.2.2.1)
theorem iabs_num {a : Int} (h : num a = true) : 0 ≤ iabs a ∧ iabs a ≤ 4611686018427387904 := by
  rw [num_iff] at h
  unfold iabs
  by_cases h1 : a < 0
  · simp only [h1, decide_true, cond_true]; omega
  · simp only [h1, decide_false, cond_false]; omega
theorem szV_num {a : Int} (h : num a = true) : (szV (a, ())).a.n = iabs a ∧ (szV (a, ())).b.n = sgn a := by
  rw [num_iff] at h
  refine ⟨?_, rfl⟩
  have e1 : a < 0 → IntKind.u64.wrap (IntKind.i64.wrap (0 - a)) = 0 - a := fun h1 => by
    rw [wrap_i64_id (z := 0 - a) (by omega) (by omega), wrap_u64_id (z := 0 - a) (by omega) (by omega)]
  have e2 : ¬ a < 0 → IntKind.u64.wrap a = a := fun h1 => wrap_u64_id (by omega) (by omega)
  unfold szV iabs
  dsimp only
  by_cases h1 : a < 0
  · rw [e1 h1]; simp only [h1, decide_true, cond_true]
  · rw [e2 h1]; simp only [h1, decide_false, cond_false]
theorem ok175 : SumOk Try.prog 130 (S0 szV) := by
  refine S0_ok (E := { gam := [] }) GamOk.nil 20 fun a => ?_
  obtain ⟨a, _⟩ := a
  refine (sizeTree a).trans ?_
  unfold szV sgn
  dsimp only
  cases decide (a < 0) <;> rfl
theorem ok169 : SumOk Try.prog 124 (S 25 gvV) := by
  refine S_ok (E := { gam := [] }) GamOk.nil 20 fun f a => ?_
  obtain ⟨n, ok, _⟩ := a
  refine (giveTree f ok n).trans ?_
  unfold gvV num
  cases ok
  · rfl
  · by_cases h1 : n > 4611686018427387904
    · have e : decide (n ≤ 4611686018427387904) = false := by simp; omega
      simp only [h1, e, decide_true, Bool.not_true, cond_false, cond_true, Bool.false_and, Bool.and_false]; rfl
    · have e : decide (n ≤ 4611686018427387904) = true := by simp; omega
      by_cases h2 : n < -4611686018427387904
      · have e2 : decide (-4611686018427387904 ≤ n) = false := by simp; omega
        simp only [h1, h2, e, e2, decide_true, decide_false, Bool.not_true, cond_false, cond_true, Bool.and_false]; rfl
      · have e2 : decide (-4611686018427387904 ≤ n) = true := by simp; omega
        simp only [h1, h2, e, e2, decide_false, Bool.not_true, cond_false, cond_true, Bool.and_self]; rfl
theorem xor3 (a b c : Int) : (xorI (xorI (sgn a) (sgn b)) (sgn c) == 1) = neg3 a b c := by
  unfold sgn neg3
  cases decide (a < 0) <;> cases decide (b < 0) <;> cases decide (c < 0) <;> rfl
theorem gvV_ok {f : Bool} {m : Int} : gvV f (m, true, ()) = bif num m then (m, f) else (0, true) := by simp [gvV]
theorem gv_neg {f n : Bool} {q : Int} (h0 : 0 ≤ q) : gvV f (bif n then 0 - q else q, true, ()) = bif decide (q > 4611686018427387904) then (0, true) else (bif n then 0 - q else q, f) := by
  rw [gvV_ok]
  have : num (bif n then 0 - q else q) = !decide (q > 4611686018427387904) := by
    rw [Bool.eq_iff_iff, num_iff, Bool.not_eq_true', decide_eq_false_iff_not]
    cases n <;> simp only [cond_true, cond_false] <;> omega
  rw [this]
  cases decide (q > 4611686018427387904) <;> rfl
theorem ok166 : SumOk Try.prog 123 (Sc 25 num3 fun f (p : Int × Int × Int × Unit) => fratio f p.1 p.2.1 p.2.2.1) := by
  have hG : GamOk Try.prog [(131, S0c mulPre mulVal), (146, S0c divPre divVal), (130, S0 szV), (124, S 25 gvV)] := .cons ok176 (.cons ok183 (.cons ok175 (.cons ok169 .nil)))
  refine Sc_ok (E := { gam := [(131, S0c mulPre mulVal), (146, S0c divPre divVal), (130, S0 szV), (124, S 25 gvV)] }) hG 20 fun f p hp => ?_
  obtain ⟨a, b, c, _⟩ := p
  simp only [num3, Bool.and_eq_true] at hp
  obtain ⟨ha, hb, hc⟩ := hp
  refine (ratioTree mulPre mulVal divPre divVal szV gvV a b c f).trans ?_
  obtain ⟨a1, a2⟩ := szV_num ha
  obtain ⟨b1, b2⟩ := szV_num hb
  obtain ⟨c1, c2⟩ := szV_num hc
  obtain ⟨a3, a4⟩ := iabs_num ha
  obtain ⟨b3, b4⟩ := iabs_num hb
  obtain ⟨c3, c4⟩ := iabs_num hc
  dsimp only
  rw [a1, a2, b1, b2, c1, c2, xor3]
  have n0 : 0 ≤ iabs a * iabs b := Int.mul_nonneg a3 b3
  have n1 : iabs a * iabs b ≤ 4611686018427387904 * 4611686018427387904 := Int.le_trans (Int.mul_le_mul_of_nonneg_right a4 b3) (Int.mul_le_mul_of_nonneg_left b4 (by omega))
  have hm : mulPre (⟨iabs a⟩, ⟨iabs b⟩, ()) = true := by simp only [mulPre, word, Bool.and_eq_true, decide_eq_true_eq]; omega
  rw [hm, cond_true]
  unfold fratio
  generalize hx : iabs a * iabs b = N at *
  generalize iabs c = z at *
  simp only [mulVal, hx]
  have hbad : ∀ m : Int, gvV f (m, false, ()) = (0, true) := fun m => rfl
  by_cases hz : z = 0
  · subst hz
    simp only [BEq.rfl, cond_true, Bool.true_or, hbad]
    rfl
  have hz' : (z == 0) = false := by simp; exact hz
  have hzp : 0 < z := by omega
  rw [hz']
  simp only [cond_false, Bool.false_or]
  by_cases hh : N / 18446744073709551616 ≥ z
  · have : decide (N / z > 4611686018427387904) = true := by
      simp only [decide_eq_true_eq]
      have : 4611686018427387905 ≤ N / z := (Int.le_ediv_iff_mul_le hzp).2 (by omega)
      omega
    simp only [hh, this, decide_true, cond_true, Bool.true_or, hbad]
    rfl
  have hd : divPre (⟨N / 18446744073709551616⟩, ⟨N % 18446744073709551616⟩, ⟨z⟩, ()) = true := by
    simp only [divPre, decide_eq_true_eq]; omega
  have hv : divVal (⟨N / 18446744073709551616⟩, ⟨N % 18446744073709551616⟩, ⟨z⟩, ()) = ⟨⟨N / z⟩, ⟨N % z⟩⟩ := by
    unfold divVal
    simp only [show N / 18446744073709551616 * 18446744073709551616 + N % 18446744073709551616 = N by omega]
  simp only [hh, hd, hv, decide_false, cond_false, cond_true]
  have q0 : 0 ≤ N / z := Int.ediv_nonneg n0 (by omega)
  have r0 := Int.emod_nonneg N (b := z) (by omega)
  have r1 := Int.emod_lt_of_pos N hzp
  by_cases hq : N / z > 4611686018427387904
  · simp only [hq, decide_true, cond_true, Bool.true_or, hbad]
    rfl
  simp only [hq, decide_false, cond_false, Bool.false_or]
  rw [wrap_u64_id (z := z - N % z) (by omega) (by omega), wrap_u64_id (z := N / z + 1) (by omega) (by omega), wrap_i64_id (z := N / z + 1) (by omega) (by omega), wrap_i64_id (z := N / z) (by omega) (by omega),
    wrap_i64_id (z := 0 - (N / z + 1)) (by omega) (by omega), wrap_i64_id (z := 0 - N / z) (by omega) (by omega)]
  have fin : ∀ q : Int, 0 ≤ q → (bif neg3 a b c then some (AV.val (.int .i64 (gvV f (0 - q, true, ())).1), row 25 (gvV f (0 - q, true, ())).2) else some (AV.val (.int .i64 (gvV f (q, true, ())).1), row 25 (gvV f (q, true, ())).2)) =
      some (AV.val (Cod.enc (bif decide (q > 4611686018427387904) then ((0 : Int), true) else (bif neg3 a b c then 0 - q else q, f)).1), row 25 (bif decide (q > 4611686018427387904) then ((0 : Int), true) else (bif neg3 a b c then 0 - q else q, f)).2) := by
    intro q h0
    rw [← gv_neg h0]
    cases neg3 a b c <;> rfl
  rw [fin _ (by omega), fin _ (by omega)]
  unfold rnd
  cases decide (N % z ≥ z - N % z) <;> rfl
end Go.Ab
/- fixed's Mul, Div, Part. -/
namespace Go.Ab
open Go Go.Proofs
variable {β : Type}
/-- take, as fixed's text goes, and as the document's. -/
def ptk : List Int → Bool → (Bool → Option β) → Option β
  | [], f, K => K f
  | x :: r, f, K => bif f then ptk r true K else bif decide (x > 4611686018427387904) then ptk r true K else ptk r (decide (x < -4611686018427387904)) K
def rtk : List Int → Bool → (Bool → Option β) → Option β
  | [], f, K => K f
  | x :: r, f, K => bif decide (x ≥ -4611686018427387904) then (bif !decide (x ≤ 4611686018427387904) then rtk r true K else rtk r f K) else rtk r true K
def nums? : List Int → Bool
  | [] => true
  | x :: r => num x && nums? r
theorem ptk_eq : ∀ (l : List Int) (f : Bool) (K : Bool → Option β), ptk l f K = K (f || !nums? l)
  | [], f, K => by simp [ptk, nums?]
  | x :: r, f, K => by
    simp only [ptk, ptk_eq r, nums?]
    cases f with
    | true => simp
    | false =>
      by_cases h1 : x > 4611686018427387904
      · have : num x = false := by simp [num]; omega
        simp [h1, this]
      · by_cases h2 : x < -4611686018427387904
        · have : num x = false := by simp [num]; omega
          simp [h1, h2, this]
        · have : num x = true := by rw [num_iff]; omega
          simp [h1, h2, this]
theorem rtk_eq : ∀ (l : List Int) (f : Bool) (K : Bool → Option β), rtk l f K = K (f || !nums? l)
  | [], f, K => by simp [rtk, nums?]
  | x :: r, f, K => by
    simp only [rtk, rtk_eq r, nums?]
    by_cases h1 : x > 4611686018427387904
    · have : num x = false := by simp [num]; omega
      have e : decide (x ≤ 4611686018427387904) = false := by simp; omega
      rw [this, e]
      simp
    · by_cases h2 : x < -4611686018427387904
      · have : num x = false := by simp [num]; omega
        have e : decide (x ≥ -4611686018427387904) = false := by simp; omega
        rw [this, e]
        simp
      · have : num x = true := by rw [num_iff]; omega
        have e : decide (x ≤ 4611686018427387904) = true := by simp; omega
        have e2 : decide (x ≥ -4611686018427387904) = true := by simp; omega
        rw [this, e, e2]
        simp
/-- What comes behind take: nothing, or the ratio. -/
def thenR (e : TypeId) (pre : Int × Int × Int × Unit → Bool) (g : Bool → Int × Int × Int × Unit → Int × Bool) (a b c : Int) (f : Bool) : Option (AV × List Con) :=
  bif !!f then some (.val (.int .i64 0), row e f) else bif pre (a, b, c, ()) then some (.val (.int .i64 (g f (a, b, c, ())).1), row e (g f (a, b, c, ())).2) else none
theorem mul121 (pre : Int × Int × Int × Unit → Bool) (g : Bool → Int × Int × Int × Unit → Int × Bool) (x y : Int) (f : Bool) :
    fnSum Try.prog { gam := [(123, Sc 25 pre g)] } [] 20 62 [.ptr 0 0, .val (.int .i64 x), .val (.int .i64 y)] (row 25 f) = ptk [x, y] f (thenR 25 pre g x y 1099511627776) := by kernel_rfl
theorem div135 (pre : Int × Int × Int × Unit → Bool) (g : Bool → Int × Int × Int × Unit → Int × Bool) (x y : Int) (f : Bool) :
    fnSum Try.prog { gam := [(123, Sc 25 pre g)] } [] 20 74 [.ptr 0 0, .val (.int .i64 x), .val (.int .i64 y)] (row 25 f) = ptk [x, y] f (thenR 25 pre g x 1099511627776 y) := by kernel_rfl
theorem part116 (pre : Int × Int × Int × Unit → Bool) (g : Bool → Int × Int × Int × Unit → Int × Bool) (x y z : Int) (f : Bool) :
    fnSum Try.prog { gam := [(123, Sc 25 pre g)] } [] 20 59 [.ptr 0 0, .val (.int .i64 x), .val (.int .i64 y), .val (.int .i64 z)] (row 25 f) = ptk [x, y, z] f (thenR 25 pre g x y z) := by kernel_rfl
theorem mul122 (pre : Int × Int × Int × Unit → Bool) (g : Bool → Int × Int × Int × Unit → Int × Bool) (x y : Int) (f : Bool) :
    fnSum Try.prog { gam := [(128, Sc 27 pre g)] } [] 20 67 [.ptr 0 0, .val (.int .i64 x), .val (.int .i64 y)] (row 27 f) = rtk [x, y] f (thenR 27 pre g x y 1099511627776) := by kernel_rfl
theorem div140 (pre : Int × Int × Int × Unit → Bool) (g : Bool → Int × Int × Int × Unit → Int × Bool) (x y : Int) (f : Bool) :
    fnSum Try.prog { gam := [(128, Sc 27 pre g)] } [] 20 76 [.ptr 0 0, .val (.int .i64 x), .val (.int .i64 y)] (row 27 f) = rtk [x, y] f (thenR 27 pre g x 1099511627776 y) := by kernel_rfl
theorem part118 (pre : Int × Int × Int × Unit → Bool) (g : Bool → Int × Int × Int × Unit → Int × Bool) (x y z : Int) (f : Bool) :
    fnSum Try.prog { gam := [(128, Sc 27 pre g)] } [] 20 65 [.ptr 0 0, .val (.int .i64 x), .val (.int .i64 y), .val (.int .i64 z)] (row 27 f) = rtk [x, y, z] f (thenR 27 pre g x y z) := by kernel_rfl
def fpart (f : Bool) (a b c : Int) : Int × Bool := bif f || !nums? [a, b, c] then (0, true) else fratio false a b c
def fmul (f : Bool) (a b : Int) : Int × Bool := bif f || !nums? [a, b] then (0, true) else fratio false a b 1099511627776
def fdiv (f : Bool) (a b : Int) : Int × Bool := bif f || !nums? [a, b] then (0, true) else fratio false a 1099511627776 b
def ratV (f : Bool) (p : Int × Int × Int × Unit) : Int × Bool := fratio f p.1 p.2.1 p.2.2.1
theorem thenR_eq {e : TypeId} {a b c : Int} {bad : Bool} (h : bad = false → num3 (a, b, c, ()) = true) :
    thenR e num3 ratV a b c bad = some (.val (.int .i64 (bif bad then ((0 : Int), true) else fratio false a b c).1), row e (bif bad then ((0 : Int), true) else fratio false a b c).2) := by
  unfold thenR
  cases bad with
  | true => rfl
  | false => rw [h rfl]; rfl
theorem mulVal_eq (e : TypeId) (x y : Int) (f : Bool) : thenR e num3 ratV x y 1099511627776 (f || !nums? [x, y]) = some (.val (.int .i64 (fmul f x y).1), row e (fmul f x y).2) :=
  thenR_eq fun h => by
    simp only [Bool.or_eq_false_iff, Bool.not_eq_false', nums?, Bool.and_true, Bool.and_eq_true] at h
    simp only [num3, Bool.and_eq_true]
    exact ⟨h.2.1, h.2.2, by decide⟩
theorem divVal_eq (e : TypeId) (x y : Int) (f : Bool) : thenR e num3 ratV x 1099511627776 y (f || !nums? [x, y]) = some (.val (.int .i64 (fdiv f x y).1), row e (fdiv f x y).2) :=
  thenR_eq fun h => by
    simp only [Bool.or_eq_false_iff, Bool.not_eq_false', nums?, Bool.and_true, Bool.and_eq_true] at h
    simp only [num3, Bool.and_eq_true]
    exact ⟨h.2.1, by decide, h.2.2⟩
theorem partVal_eq (e : TypeId) (x y z : Int) (f : Bool) : thenR e num3 ratV x y z (f || !nums? [x, y, z]) = some (.val (.int .i64 (fpart f x y z).1), row e (fpart f x y z).2) :=
  thenR_eq fun h => by
    simp only [Bool.or_eq_false_iff, Bool.not_eq_false', nums?, Bool.and_true, Bool.and_eq_true] at h
    simp only [num3, Bool.and_eq_true]
    exact ⟨h.2.1, h.2.2.1, h.2.2.2⟩
theorem gam166 : GamOk Try.prog [(123, Sc 25 num3 ratV)] := .cons ok166 .nil
theorem ok121 : SumOk Try.prog 62 (S 25 (op2 fmul)) := S_ok (E := { gam := [(123, Sc 25 num3 ratV)] }) gam166 20 fun f p => by
  obtain ⟨x, y, _⟩ := p
  exact ((mul121 num3 ratV x y f).trans (ptk_eq _ _ _)).trans (mulVal_eq 25 x y f)
theorem ok135 : SumOk Try.prog 74 (S 25 (op2 fdiv)) := S_ok (E := { gam := [(123, Sc 25 num3 ratV)] }) gam166 20 fun f p => by
  obtain ⟨x, y, _⟩ := p
  exact ((div135 num3 ratV x y f).trans (ptk_eq _ _ _)).trans (divVal_eq 25 x y f)
theorem ok116 : SumOk Try.prog 59 (S 25 (op3 fpart)) := S_ok (E := { gam := [(123, Sc 25 num3 ratV)] }) gam166 20 fun f p => by
  obtain ⟨x, y, z, _⟩ := p
  exact ((part116 num3 ratV x y z f).trans (ptk_eq _ _ _)).trans (partVal_eq 25 x y z f)
end Go.Ab
/- The document's Times: a product, bit by bit. -/
namespace Go.Ab
open Go Go.Proofs
theorem addTree (a b : Wd) : fnSum Try.prog { gam := [] } [] 20 134 [.val (Cod.enc a), .val (Cod.enc b)] [] =
    bif decide (IntKind.u64.wrap (a.l + b.l) < a.l) then some (.val (Cod.enc (Wd.mk (IntKind.u64.wrap (IntKind.u64.wrap (a.h + b.h) + 1)) (IntKind.u64.wrap (a.l + b.l)))), [])
    else some (.val (Cod.enc (Wd.mk (IntKind.u64.wrap (a.h + b.h)) (IntKind.u64.wrap (a.l + b.l)))), []) := by kernel_rfl
def adV (p : Wd × Wd × Unit) : Wd :=
  bif decide (IntKind.u64.wrap (p.1.l + p.2.1.l) < p.1.l) then ⟨IntKind.u64.wrap (IntKind.u64.wrap (p.1.h + p.2.1.h) + 1), IntKind.u64.wrap (p.1.l + p.2.1.l)⟩ else ⟨IntKind.u64.wrap (p.1.h + p.2.1.h), IntKind.u64.wrap (p.1.l + p.2.1.l)⟩
theorem ok178 : SumOk Try.prog 134 (S0 adV) := by
  refine S0_ok (E := { gam := [] }) GamOk.nil 20 fun p => ?_
  obtain ⟨a, b, _⟩ := p
  refine (addTree a b).trans ?_
  unfold adV
  dsimp only
  cases decide (IntKind.u64.wrap (a.l + b.l) < a.l) <;> rfl
def Wd.ok (a : Wd) : Bool := word a.h && word a.l
def Wd.val (a : Wd) : Int := a.h * 18446744073709551616 + a.l
theorem adV_val {a b : Wd} (ha : a.ok = true) (hb : b.ok = true) : (adV (a, b, ())).ok = true ∧ (adV (a, b, ())).val = (a.val + b.val) % 340282366920938463463374607431768211456 := by
  simp only [Wd.ok, word, Bool.and_eq_true, decide_eq_true_eq] at ha hb
  unfold adV
  dsimp only
  simp only [wrap_u64]
  by_cases h : (a.l + b.l) % 18446744073709551616 < a.l
  · simp only [h, decide_true, cond_true, Wd.ok, Wd.val, word, Bool.and_eq_true, decide_eq_true_eq]
    omega
  · simp only [h, decide_false, cond_false, Wd.ok, Wd.val, word, Bool.and_eq_true, decide_eq_true_eq]
    omega
def tmRows : Rows' := [(4096, 143, [.u64, .u64]), (1532495540865888858358347027150309183618739122183606272, 143, [.u64, .u64]), (3064991081731777716716694054300618367237478244367208448, 143, [.u64, .u64])]
def tmFx : List (Nat × Nat × Nat) := [(4, 4096, 0), (5, 1532495540865888858358347027150309183618739122183606272, 0), (6, 3064991081731777716716694054300618367237478244367208448, 0)]
def tmSl : Slots := [(1, .int .u64)]
def termEnd (b : Nat) (t : Wd) : Wd := if h : b = 0 then t else termEnd (b / 2) (adV (t, t, ()))
termination_by b
def tpre : List Int → Bool
  | [b, _, _, s1, s2, t1, t2] => word b && ((Wd.mk s1 s2).ok && ((Wd.mk t1 t2).ok && decide ((Wd.mk s1 s2).val + (Wd.mk t1 t2).val * b < 340282366920938463463374607431768211456)))
  | _ => false
def tpostV (A B C D : Int → Int → Int → Int → Int → Int) : List Int → List Int
  | [b, z1, z2, s1, s2, t1, t2] => [0, z1, z2, A b s1 s2 t1 t2, B b s1 s2 t1 t2, C b s1 s2 t1 t2, D b s1 s2 t1 t2]
  | l => l
def tpost : List Int → List Int := tpostV (fun b s1 s2 t1 t2 => ((Wd.mk s1 s2).val + (Wd.mk t1 t2).val * b) / 18446744073709551616) (fun b s1 s2 t1 t2 => ((Wd.mk s1 s2).val + (Wd.mk t1 t2).val * b) % 18446744073709551616)
  (fun b _ _ t1 t2 => (termEnd b.toNat ⟨t1, t2⟩).h) (fun b _ _ t1 t2 => (termEnd b.toNat ⟨t1, t2⟩).l)
theorem timesRound (ad : Wd × Wd × Unit → Wd) (b z1 z2 s1 s2 t1 t2 : Int) (x : Nat → AV) (lo hi step : Nat) :
    run Try.prog (callN Try.prog { gam := [(134, S0 ad)] } 1) 24 { quiet := isSum [(134, S0 ad)] } [] 50 (Ex × St) (loopOf (blkOf Try.f135 0)) (lqSt 24 tmSl tmFx (nums 10 14) tmRows [b, z1, z2, s1, s2, t1, t2] x lo hi step) (fun e s' => some (e, maskSt (nums 10 14) s')) =
      bif decide (b > 0) then
        bif b.tmod 2 == 1 then some (.normal, lqSt 24 tmSl tmFx (nums 10 14) tmRows [IntKind.u64.wrap (b.tdiv 2), z1, z2, (ad (⟨s1, s2⟩, ⟨t1, t2⟩, ())).h, (ad (⟨s1, s2⟩, ⟨t1, t2⟩, ())).l, (ad (⟨t1, t2⟩, ⟨t1, t2⟩, ())).h, (ad (⟨t1, t2⟩, ⟨t1, t2⟩, ())).l] x lo hi step)
        else some (.normal, lqSt 24 tmSl tmFx (nums 10 14) tmRows [IntKind.u64.wrap (b.tdiv 2), z1, z2, s1, s2, (ad (⟨t1, t2⟩, ⟨t1, t2⟩, ())).h, (ad (⟨t1, t2⟩, ⟨t1, t2⟩, ())).l] x lo hi step)
      else some (.exit 0, lqSt 24 tmSl tmFx (nums 10 14) tmRows [b, z1, z2, s1, s2, t1, t2] x lo hi step) := by kernel_rfl
theorem timesTree (ad : Wd × Wd × Unit → Wd) (p : List Int → Bool) (A B C D : Int → Int → Int → Int → Int → Int) (a b : Int) :
    fnSum Try.prog { gam := [(134, S0 ad)] } [(0, lqHint 24 tmSl tmFx (nums 10 14) tmRows p (tpostV A B C D))] 20 135 [.val (.int .u64 a), .val (.int .u64 b)] [] =
      bif p [b, 0, 0, 0, 0, 0, a] then some (.val (Cod.enc (Wd.mk (A b 0 0 0 a) (B b 0 0 0 a))), []) else none := by kernel_rfl
end Go.Ab
/- The document's Times is the product. -/
namespace Go.Ab
open Go Go.Proofs
theorem timesStep {b z1 z2 s1 s2 t1 t2 : Int} (hp : tpre [b, z1, z2, s1, s2, t1, t2] = true) :
    (b > 0 → ∀ u : Wd, u = (bif b.tmod 2 == 1 then adV (⟨s1, s2⟩, ⟨t1, t2⟩, ()) else ⟨s1, s2⟩) →
      tpre [IntKind.u64.wrap (b.tdiv 2), z1, z2, u.h, u.l, (adV (⟨t1, t2⟩, ⟨t1, t2⟩, ())).h, (adV (⟨t1, t2⟩, ⟨t1, t2⟩, ())).l] = true ∧
      tpost [IntKind.u64.wrap (b.tdiv 2), z1, z2, u.h, u.l, (adV (⟨t1, t2⟩, ⟨t1, t2⟩, ())).h, (adV (⟨t1, t2⟩, ⟨t1, t2⟩, ())).l] = tpost [b, z1, z2, s1, s2, t1, t2] ∧
      (IntKind.u64.wrap (b.tdiv 2)).toNat < b.toNat) ∧
    (¬ b > 0 → tpost [b, z1, z2, s1, s2, t1, t2] = [b, z1, z2, s1, s2, t1, t2]) := by
  simp only [tpre, Bool.and_eq_true, decide_eq_true_eq] at hp
  obtain ⟨hb, hs, ht, hlt⟩ := hp
  simp only [word, decide_eq_true_eq] at hb
  obtain ⟨hb0, hb1⟩ := hb
  refine ⟨fun hpos u hu => ?_, fun hz => ?_⟩
  · have e1 : b.tdiv 2 = b / 2 := Int.tdiv_eq_ediv_of_nonneg hb0
    have e2 : b.tmod 2 = b % 2 := Int.tmod_eq_emod_of_nonneg hb0
    have e3 : IntKind.u64.wrap (b / 2) = b / 2 := wrap_u64_id (by omega) (by omega)
    rw [e1, e3]
    rw [e2] at hu
    obtain ⟨k1, k2⟩ := adV_val ht ht
    obtain ⟨k3, k4⟩ := adV_val hs ht
    have ht' := ht
    have hs' := hs
    simp only [Wd.ok, word, Bool.and_eq_true, decide_eq_true_eq] at ht' hs'
    have hT0 : 0 ≤ (Wd.mk t1 t2).val := by simp only [Wd.val]; omega
    have hS0 : 0 ≤ (Wd.mk s1 s2).val := by simp only [Wd.val]; omega
    have hT1 : (Wd.mk t1 t2).val < 340282366920938463463374607431768211456 := by simp only [Wd.val]; omega
    have hterm : termEnd b.toNat ⟨t1, t2⟩ = termEnd (b / 2).toNat (adV (⟨t1, t2⟩, ⟨t1, t2⟩, ())) := by
      rw [termEnd, dif_neg (by omega)]
      congr 1
      omega
    generalize hTT : (Wd.mk t1 t2).val = T at *
    generalize hSS : (Wd.mk s1 s2).val = Sv at *
    generalize hD : adV (⟨t1, t2⟩, ⟨t1, t2⟩, ()) = D at *
    have hTb : T * b = 2 * (T * (b / 2)) + T * (b % 2) := by
      have : b = 2 * (b / 2) + b % 2 := by omega
      calc T * b = T * (2 * (b / 2) + b % 2) := by rw [← this]
        _ = 2 * (T * (b / 2)) + T * (b % 2) := by rw [Int.mul_add, Int.mul_left_comm]
    have hTh0 : 0 ≤ T * (b / 2) := Int.mul_nonneg hT0 (by omega)
    -- the sum
    have hu1 : u.ok = true ∧ u.val = Sv + T * (b % 2) := by
      rcases Int.emod_two_eq b with h | h
      · rw [h] at hu
        have : u = ⟨s1, s2⟩ := hu
        subst this
        exact ⟨hs, by rw [hSS, h]; omega⟩
      · rw [h] at hu
        have : u = adV (⟨s1, s2⟩, ⟨t1, t2⟩, ()) := hu
        subst this
        refine ⟨k3, ?_⟩
        rw [k4, h, Int.mul_one]
        rw [h, Int.mul_one] at hTb
        omega
    obtain ⟨hu1, hu2⟩ := hu1
    -- the term
    have hD2 : D.val * (b / 2) = 2 * (T * (b / 2)) := by
      by_cases hb2 : b / 2 = 0
      · rw [hb2]; omega
      · have h1 : T * 1 ≤ T * (b / 2) := Int.mul_le_mul_of_nonneg_left (by omega) hT0
        have h2 : 0 ≤ T * (b % 2) := Int.mul_nonneg hT0 (by omega)
        have : D.val = 2 * T := by rw [k2]; omega
        rw [this, Int.mul_assoc]
    have hsum : u.val + D.val * (b / 2) = Sv + T * b := by rw [hu2, hD2, hTb]; omega
    refine ⟨?_, ?_, by omega⟩
    · simp only [tpre, Bool.and_eq_true, decide_eq_true_eq]
      refine ⟨by simp only [word, decide_eq_true_eq]; omega, hu1, k1, ?_⟩
      show u.val + D.val * (b / 2) < _
      rw [hsum]; exact hlt
    · simp only [tpost, tpostV]
      have h1 : (Wd.mk u.h u.l).val + (Wd.mk D.h D.l).val * (b / 2) = Sv + T * b := hsum
      rw [h1, hTT, hSS, hterm]
  · have hb : b = 0 := by omega
    subst hb
    simp only [tpost, tpostV]
    have h1 : termEnd (Int.toNat 0) ⟨t1, t2⟩ = ⟨t1, t2⟩ := by rw [termEnd]; rfl
    rw [h1]
    simp only [Wd.ok, word, Bool.and_eq_true, decide_eq_true_eq] at hs
    simp only [Int.mul_zero, Int.add_zero, Wd.val]
    rw [show (s1 * 18446744073709551616 + s2) / 18446744073709551616 = s1 by omega, show (s1 * 18446744073709551616 + s2) % 18446744073709551616 = s2 by omega]
def tmHints : Hints := [(0, lqHint 24 tmSl tmFx (nums 10 14) tmRows tpre tpost)]
theorem tmBlocks : blocksOf (Try.f135.body.getD .skip) = [(0, .loop (loopOf (blkOf Try.f135 0))), (1, blkOf Try.f135 1)] := by kernel_rfl
theorem tmFit : ∀ fn c, Try.prog.funcs[135]? = some fn → fn.body = some c → HFit Try.prog fn.ntmps tmHints c := by
  intro fn c hf hb
  rw [Try.func135] at hf
  cases hf
  have hn : Try.f135.ntmps = 24 := by kernel_rfl
  have hc : Try.f135.body.getD .skip = c := by rw [hb]; rfl
  rw [hn]
  have hL := tmBlocks
  rw [hc] at hL
  have hcall : ∀ β, CallOk Try.prog (callN Try.prog { gam := [(134, S0 adV)] } 1 β) := callN_ok (.cons ok178 .nil) 1
  refine HFit.of fun p hp h hh s s' hs => ?_
  rw [hL] at hp
  simp only [List.mem_cons, List.not_mem_nil, or_false] at hp
  rcases hp with rfl | rfl
  · have : h = lqHint 24 tmSl tmFx (nums 10 14) tmRows tpre tpost := (Option.some.inj hh).symm
    subst this
    refine lq_ok hcall (F := 50) (wy := { quiet := isSum [(134, S0 adV)] }) (fun xs => (xs.getD 0 0).toNat) ?_ s s' hs
    intro xs hlen hpre x lo hi step
    obtain ⟨b, z1, z2, s1, s2, t1, t2, rfl⟩ : ∃ b z1 z2 s1 s2 t1 t2, xs = [b, z1, z2, s1, s2, t1, t2] := by
      match xs, hlen with
      | [a, b, c, d, e, f, g], _ => exact ⟨a, b, c, d, e, f, g, rfl⟩
    obtain ⟨h1, h2⟩ := timesStep hpre
    rw [timesRound]
    by_cases hb : b > 0
    · obtain ⟨k1, k2, k3⟩ := h1 hb _ rfl
      simp only [hb, decide_true, cond_true]
      refine .inl ⟨_, ?_, k1, ?_, k2, ?_⟩
      · rfl
      · simpa only [List.getD_cons_zero] using k3
      · cases b.tmod 2 == 1 <;> rfl
    · simp only [hb, decide_false, cond_false]
      refine .inr ?_
      rw [h2 hb]
  · simp [findH, tmHints] at hh
def timesVal (p : U6 × U6 × Unit) : Wd := ⟨p.1.n * p.2.1.n / 18446744073709551616, p.1.n * p.2.1.n % 18446744073709551616⟩
theorem ok172 : SumOk Try.prog 135 (S0c mulPre timesVal) := by
  have hG : GamOk Try.prog [(134, S0 adV)] := .cons ok178 .nil
  refine S0c_okH (E := { gam := [(134, S0 adV)] }) hG (hB := tmHints) tmFit 20 fun p hp => ?_
  obtain ⟨⟨a⟩, ⟨b⟩, _⟩ := p
  refine (timesTree adV tpre (fun b s1 s2 t1 t2 => ((Wd.mk s1 s2).val + (Wd.mk t1 t2).val * b) / 18446744073709551616) (fun b s1 s2 t1 t2 => ((Wd.mk s1 s2).val + (Wd.mk t1 t2).val * b) % 18446744073709551616)
    (fun b _ _ t1 t2 => (termEnd b.toNat ⟨t1, t2⟩).h) (fun b _ _ t1 t2 => (termEnd b.toNat ⟨t1, t2⟩).l) a b).trans ?_
  simp only [mulPre, Bool.and_eq_true] at hp
  obtain ⟨ha, hb⟩ := hp
  have ha' := ha
  have hb' := hb
  simp only [word, decide_eq_true_eq] at ha' hb'
  have hab : a * b ≤ 18446744073709551615 * 18446744073709551615 := Int.le_trans (Int.mul_le_mul_of_nonneg_right (by omega) hb'.1) (Int.mul_le_mul_of_nonneg_left (by omega) (by omega))
  have hv : (Wd.mk 0 0).val + (Wd.mk 0 a).val * b = a * b := by simp [Wd.val]
  have hpre : tpre [b, 0, 0, 0, 0, 0, a] = true := by
    simp only [tpre, Bool.and_eq_true, decide_eq_true_eq, hv]
    refine ⟨hb, by decide, ?_, by omega⟩
    simp only [Wd.ok, ha, Bool.and_true]
    decide
  rw [hpre, cond_true, hv]
  rfl
end Go.Ab
