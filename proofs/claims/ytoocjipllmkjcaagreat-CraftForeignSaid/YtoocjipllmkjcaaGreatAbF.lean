/- A part of the proof of 'CraftForeign': lemmas, no statement of their own; no condition. -/
import Derived.Test.YtoocjipllmkjcaaGreatGAbA
import Derived.Laws.BytesString
import Derived.Laws.Concat
namespace Go.Ab
variable {β : Type}
section
variable {P : Program} {N : Nat} {ops : Array Oper} {i : Nat} {tmps : List AV} {heap : Hp} {o : Oper} {rd : Wr} {lo hi : Nat} {K : Wr→Wr→Option β} {res : β}
theorem opIndex_done {t : TypeId} {x ix : Operand} (hop : o.op = .indexAddr t x ix) (ho : ops[i]? = some o) (hw : Want N ops o rd) (hg : Good tmps heap rd) (hsub : ∀ p ∈ rdAll tmps o,p ∈ rd) (h : opIndex P N tmps o rd t x ix K = some res) : Done P N ops i tmps heap lo hi K res:=by
  have hx : x ∈ o.op.operands:=by simp [hop,Op.operands]
  have hix : ix ∈ o.op.operands:=by simp [hop,Op.operands]
  unfold opIndex at h
  split at h
  · rename_i b off k n len elem ha hb hu
    split at h
    · rename_i ti hi'
      split at h
      · rename_i hd
        have hd:=of_decide_eq_true hd
        refine fin_done ho hw hg h fun w0 own σ u a' w hf hr=>?_
        have h1:=opd_rel hf (mem_rdAll hx hsub hr) ha
        have h2:=opd_rel hf (mem_rdAll hix hsub hr) hb
        simp only [Rel] at h1 h2
        obtain ⟨r,hr1,e⟩:=h1
        refine ⟨.pointer (some ⟨r,off + n.toNat * ti.size,none⟩),?_,by simp only [Rel]; exact ⟨r,hr1,rfl⟩⟩
        simp only [execOp,hop,Instr.indexAt,h2,asIntOf,Sem.run_bind,run_underlying hu,Result.andThen_ok,e,Instr.sureAddr,Sem.run_pure,Sem.run_ite,if_pos hd,run_sizeOf hi',addr_add]
      · cases h
    · cases h
  · rename_i b off len cap k n elem ha hb hu
    split at h
    · rename_i ti hi'
      split at h
      · rename_i hd
        have hd:=of_decide_eq_true hd
        refine fin_done ho hw hg h fun w0 own σ u a' w hf hr=>?_
        have h1:=opd_rel hf (mem_rdAll hx hsub hr) ha
        have h2:=opd_rel hf (mem_rdAll hix hsub hr) hb
        simp only [Rel] at h1 h2
        obtain ⟨r,hr1,e⟩:=h1
        refine ⟨.pointer (some ⟨r,off + n.toNat * ti.size,none⟩),?_,by simp only [Rel]; exact ⟨r,hr1,rfl⟩⟩
        simp only [execOp,hop,Instr.indexAt,h2,asIntOf,Sem.run_bind,run_underlying hu,Result.andThen_ok,e,Sem.run_pure,Sem.run_ite,if_pos hd,run_sizeOf hi',addr_add]
      · cases h
    · cases h
  · cases h
theorem bdA_run {N : Nat} {w0 : World} {own : Nat→Prop} {σ : Nat→Option Nat} {u : U} {a : Act} {w : World} (hf : Fits N w0 own σ u a w) {x : Operand} {d top n : Nat} {code : BoundsCode}
    (hr : ∀ p ∈ rdOf tmps x,u p.1 = some p.2) (h : bdA tmps (some x) d top = some n) : (Instr.sliceBound (a.eval x) top code).run P w = .ok n w:=by
  unfold bdA at h
  simp only at h
  split at h
  · rename_i k m hm
    split at h
    · rename_i hd
      have hd:=of_decide_eq_true hd
      cases h
      have h1:=opd_rel hf hr hm
      simp only [Rel] at h1
      simp only [Instr.sliceBound,h1,asIntOf,Sem.run_bind,Sem.run_pure,Result.andThen_ok,Sem.run_ite,if_pos hd]
    · cases h
  · cases h
theorem run_bounds {N : Nat} {w0 : World} {own : Nat→Prop} {σ : Nat→Option Nat} {u : U} {a : Act} {w : World} (hf : Fits N w0 own σ u a w) {isS : Bool} {len cap h l : Nat} {xl xh : Option Operand}
    (hrl : ∀ x,xl = some x→∀ p ∈ rdOf tmps x,u p.1 = some p.2) (hrh : ∀ x,xh = some x→∀ p ∈ rdOf tmps x,u p.1 = some p.2)
    (hh : bdA tmps xh len cap = some h) (hl : bdA tmps xl 0 h = some l) : (Instr.sliceBounds isS len cap (xl.map a.eval) (xh.map a.eval) none).run P w = .ok (l,h,cap) w:=by
  unfold Instr.sliceBounds
  simp only [pure_bind]
  cases xh with
  | none =>
    simp [bdA] at hh
    subst hh
    cases xl with
    | none=>simp [bdA] at hl; subst hl; simp
    | some y =>
      have:=bdA_run (P:=P) (code:=if (none : Option Value).isSome = true then .slice3C else .sliceB) hf (hrl y rfl) hl
      simp only [Option.map_none,Option.map_some,Sem.run_bind]
      rw [this]
      rfl
  | some z =>
    have hz:=bdA_run (P:=P) (code:=if isS = true then .sliceAcap else .sliceAlen) hf (hrh z rfl) hh
    simp only [Option.map_some,Sem.run_bind]
    rw [hz]
    simp only [Result.andThen_ok]
    cases xl with
    | none=>simp [bdA] at hl; subst hl; simp
    | some y =>
      have:=bdA_run (P:=P) (code:=if (none : Option Value).isSome = true then .slice3C else .sliceB) hf (hrl y rfl) hl
      simp only [Option.map_some,Sem.run_bind]
      rw [this]
      rfl
theorem opSlice_done {t : TypeId} {x : Operand} {xl xh xm : Option Operand} (hop : o.op = .slice t x xl xh xm) (ho : ops[i]? = some o) (hw : Want N ops o rd) (hg : Good tmps heap rd) (hsub : ∀ p ∈ rdAll tmps o,p ∈ rd) (h : opSlice P N tmps o rd t x xl xh xm K = some res) : Done P N ops i tmps heap lo hi K res:=by
  have hx : x ∈ o.op.operands:=by simp [hop,Op.operands]
  have hl' : ∀ y,xl = some y→y ∈ o.op.operands:=by intro y e; simp [hop,Op.operands,e]
  have hh' : ∀ y,xh = some y→y ∈ o.op.operands:=by intro y e; simp [hop,Op.operands,e]
  unfold opSlice at h
  split at h
  · rename_i b off n elem ha hu
    split at h
    · rename_i ti hv hi' hbh
      split at h
      · rename_i lv hbl
        refine fin_done ho hw hg h fun w0 own σ u a' w hf hr=>?_
        have h1:=opd_rel hf (mem_rdAll hx hsub hr) ha
        have hb:=run_bounds (P:=P) (isS:=false) hf (fun y e=>mem_rdAll (hl' y e) hsub hr) (fun y e=>mem_rdAll (hh' y e) hsub hr) hbh hbl
        simp only [Rel] at h1
        obtain ⟨r,hr1,e⟩:=h1
        refine ⟨.slice (some ⟨r,(match decide (n = lv) with | true=>off | false=>off + lv * ti.size),none⟩) (hv - lv) (n - lv),?_,by simp only [Rel]; exact ⟨r,hr1,rfl⟩⟩
        simp only [execOp,hop,Instr.sliceAt,Sem.run_bind,run_underlying hu,Result.andThen_ok,e,Instr.sureAddr,Sem.run_pure,Option.map_none,hb,run_sizeOf hi',addr_add]
        by_cases hnl : n = lv
        · simp [hnl]
        · simp [hnl]
      · cases h
    · cases h
  · rename_i b off len cap elem ha hu
    split at h
    · rename_i ti hv hi' hbh
      split at h
      · rename_i lv hbl
        refine fin_done ho hw hg h fun w0 own σ u a' w hf hr=>?_
        have h1:=opd_rel hf (mem_rdAll hx hsub hr) ha
        have hb:=run_bounds (P:=P) (isS:=true) hf (fun y e=>mem_rdAll (hl' y e) hsub hr) (fun y e=>mem_rdAll (hh' y e) hsub hr) hbh hbl
        simp only [Rel] at h1
        obtain ⟨r,hr1,e⟩:=h1
        refine ⟨.slice (some ⟨r,(match decide (cap = lv) with | true=>off | false=>off + lv * ti.size),none⟩) (hv - lv) (cap - lv),?_,by simp only [Rel]; exact ⟨r,hr1,rfl⟩⟩
        simp only [execOp,hop,Instr.sliceAt,Instr.slice,Sem.run_bind,run_underlying hu,Result.andThen_ok,e,Sem.run_pure,Option.map_none,hb,run_sizeOf hi']
        by_cases hnl : cap = lv
        · simp [hnl]
        · simp [hnl,addr_add]
      · cases h
    · cases h
  · cases h
theorem run_index_string {P : Program} {t : TypeId} {s : ByteArray} {i : Nat} {k : IntKind} (hu : P.underlying t = some .string) (hi : i < s.size) (w : World) : (Instr.index t (.string s) (.int k i)).run P w = .ok (.int .u8 (s.data.toList.getD i 0).toNat) w:=by
  have e : (if 0 ≤ (i : Int) then s[(i : Int).toNat]? else none) = some (s.data.toList.getD i 0):=by
    rw [if_pos (by omega),Int.toNat_natCast,getElem?_pos s i hi]
    congr 1
    have hl : i < s.data.toList.length:=hi
    rw [List.getD_eq_getElem?_getD,List.getElem?_eq_getElem hl]
    rfl
  simp only [Instr.index,asIntOf,Sem.run_bind,Sem.run_pure,Result.andThen_ok,run_underlying hu,e]
theorem opPart_done {t : TypeId} {x ix : Operand} (hop : o.op = .index t x ix) (ho : ops[i]? = some o) (hw : Want N ops o rd) (hg : Good tmps heap rd) (hsub : ∀ p ∈ rdAll tmps o,p ∈ rd) (h : opPart P N tmps o rd t x ix K = some res) : Done P N ops i tmps heap lo hi K res:=by
  have hx : x ∈ o.op.operands:=by simp [hop,Op.operands]
  have hy : ix ∈ o.op.operands:=by simp [hop,Op.operands]
  unfold opPart at h
  split at h
  · rename_i s k n ha hb hu
    by_cases hb0 : 0 ≤ n ∧ n < (s.size : Int)
    · rw [decide_eq_true hb0,cond_true] at h
      refine fin_done ho hw hg h fun w0 own σ u a' w hf hr=>⟨.int .u8 (s.data.toList.getD n.toNat 0).toNat,?_,by simp only [Rel]⟩
      have h1:=opd_rel hf (mem_rdAll hx hsub hr) ha
      have h2:=opd_rel hf (mem_rdAll hy hsub hr) hb
      simp only [Rel] at h1 h2
      have e : n = ((n.toNat : Nat) : Int):=by omega
      have hi : n.toNat < s.size:=by omega
      have hrun:=run_index_string (P:=P) (k:=k) hu hi w
      rw [← e] at hrun
      simp only [execOp,hop,h1,h2,Sem.run_bind,hrun,Result.andThen_ok,Sem.run_pure]
    · rw [decide_eq_false hb0,cond_false] at h; cases h
  · exact opVal_done ho hw hg hsub h
theorem bdA_of_bdI {tmps : List AV} {x : Option Operand} {d top : Nat} {n : Int} (h : bdI tmps x d = some n) (h0 : 0 ≤ n) (h1 : n ≤ (top : Int)) : bdA tmps x d top = some n.toNat:=by
  unfold bdI at h
  unfold bdA
  split at h
  · cases h; simp
  · rename_i y
    split at h
    · cases h
      simp only [h0,h1,and_self,decide_true]
    · cases h
theorem opCut_done {t : TypeId} {x : Operand} {xl xh xm : Option Operand} {s : ByteArray} (hop : o.op = .slice t x xl xh xm) (ho : ops[i]? = some o) (hw : Want N ops o rd) (hg : Good tmps heap rd) (hsub : ∀ p ∈ rdAll tmps o,p ∈ rd) (ha : opd tmps x = some (.val (.string s)))
    (h : opCut P N tmps o rd t s xl xh xm K = some res) : Done P N ops i tmps heap lo hi K res:=by
  have hx : x ∈ o.op.operands:=by simp [hop,Op.operands]
  have hl' : ∀ y,xl = some y→y ∈ o.op.operands:=by intro y e; simp [hop,Op.operands,e]
  have hh' : ∀ y,xh = some y→y ∈ o.op.operands:=by intro y e; simp [hop,Op.operands,e]
  unfold opCut at h
  split at h
  · rename_i l hv hu hbl hbh
    by_cases hb0 : 0 ≤ l ∧ l ≤ hv ∧ hv ≤ (s.size : Int)
    · rw [decide_eq_true hb0,cond_true] at h
      refine fin_done ho hw hg h fun w0 own σ u a' w hf hr=>⟨.string (s.extract l.toNat hv.toNat),?_,by simp only [Rel]⟩
      have h1:=opd_rel hf (mem_rdAll hx hsub hr) ha
      simp only [Rel] at h1
      have e1:=bdA_of_bdI (top:=s.size) hbh (by omega) hb0.2.2
      have e2:=bdA_of_bdI (top:=hv.toNat) hbl hb0.1 (by omega)
      have hb:=run_bounds (P:=P) (isS:=false) hf (fun y e=>mem_rdAll (hl' y e) hsub hr) (fun y e=>mem_rdAll (hh' y e) hsub hr) e1 e2
      simp only [execOp,hop,Instr.sliceAt,Instr.slice,Sem.run_bind,run_underlying hu,Result.andThen_ok,h1,Option.map_none,Option.isSome_none,Bool.false_eq_true,if_false,hb,Sem.run_pure]
    · rw [decide_eq_false hb0,cond_false] at h; cases h
  · cases h
theorem bytesA_rel {σ : Nat→Option Nat} : ∀ (cs : List AV) (vs : List Value) (ns : List Int),Rels σ cs vs→bytesA cs = some ns→vs = ns.map (Value.int .u8)
  | [],vs,ns,h,k=>by
    simp only [bytesA,Option.some.injEq] at k
    subst k
    simpa [Rels] using h
  | c :: cs,vs,ns,h,k=>by
    unfold bytesA at k
    split at k
    · rename_i h0; cases h0
    · rename_i n r h0
      obtain ⟨rfl,rfl⟩:=List.cons.inj h0
      split at k
      · rename_i l hl
        cases k
        simp only [Rels] at h
        obtain ⟨x,xs,rfl,h1,h2⟩:=h
        simp only [Rel] at h1
        rw [h1,bytesA_rel _ xs l h2 hl]
        rfl
      · cases k
    · cases k
theorem opConv_done {src dst : TypeId} {x : Operand} (hop : o.op = .convert src dst x) (ho : ops[i]? = some o) (hw : Want N ops o rd) (hg : Good tmps heap rd) (hsub : ∀ p ∈ rdAll tmps o,p ∈ rd) (h : opConv P N tmps heap o rd src dst x K = some res) : Done P N ops i tmps heap lo hi K res:=by
  have hx : x ∈ o.op.operands:=by simp [hop,Op.operands]
  unfold opConv at h
  split at h
  · rename_i b off len cap e ha hus hud
    split at h
    · rename_i e' cs hue hh
      split at h
      · rename_i ns hns
        split at h
        · rename_i hlen
          have hlen:=Nat.eq_of_beq_eq_true hlen
          refine fin_done ho (fun w0 own σ u a w hf hr=>hw w0 own σ u a w hf fun y hy=>hr y (List.mem_cons_of_mem _ hy)) (hg.cons hh) h fun w0 own σ u a' w hf hr=>?_
          have h1:=opd_rel hf (mem_rdAll hx (fun p hp=>List.mem_cons_of_mem _ (hsub p hp)) hr) ha
          simp only [Rel] at h1
          obtain ⟨rr,hr1,e1⟩:=h1
          obtain ⟨r2,vs,hr2,hheap,hrels⟩:=hf.row b e' cs (hr (.blk b,.row e' cs) (List.mem_cons_self ..))
          rw [hr1] at hr2
          cases hr2
          have hv:=bytesA_rel _ _ ns ((hrels.drop off).take len) hns
          have hload:=run_loadCells_row (P:=P) w rr off len e' (0,0) vs _ hheap hv (by simpa using hlen)
          refine ⟨.string (ns.foldl pushI ByteArray.empty),?_,by simp only [Rel]⟩
          simp only [execOp,hop,e1,Sem.run_bind,run_convert_bytes_string w src dst e _ _ _ hus hue hud,run_bytesToString w _ _ _ ns hload,Result.andThen_ok,Sem.run_pure]
          rfl
        · cases h
      · cases h
    · cases h
  · exact opVal_done ho hw hg hsub h
theorem opArr_done {t : TypeId} {x : Operand} (hop : o.op = .sliceToArrayPointer t x) (ho : ops[i]? = some o) (hw : Want N ops o rd) (hg : Good tmps heap rd) (hsub : ∀ p ∈ rdAll tmps o,p ∈ rd) (h : opArr P N tmps o rd t x K = some res) : Done P N ops i tmps heap lo hi K res:=by
  have hx : x ∈ o.op.operands:=by simp [hop,Op.operands]
  unfold opArr at h
  split at h
  · rename_i b off len cap n elem ha hu
    split at h
    · cases h
    · rename_i hlt
      refine fin_done ho hw hg h fun w0 own σ u a' w hf hr=>?_
      have h1:=opd_rel hf (mem_rdAll hx hsub hr) ha
      simp only [Rel] at h1
      obtain ⟨r,hr1,e⟩:=h1
      have hlt:=of_decide_eq_false hlt
      refine ⟨.pointer (some ⟨r,off,none⟩),?_,by simp only [Rel]; exact ⟨r,hr1,rfl⟩⟩
      simp only [execOp,hop,Instr.arrayAt,Sem.run_bind,run_underlying hu,Result.andThen_ok,e,if_neg hlt,Sem.run_pure]
  · cases h
theorem opPick_done {c x y : Operand} (hop : o.op = .pick c x y) (ho : ops[i]? = some o) (hw : Want N ops o rd) (hg : Good tmps heap rd) (hsub : ∀ p ∈ rdAll tmps o,p ∈ rd) (h : opPick N tmps o rd c x y K = some res) : Done P N ops i tmps heap lo hi K res:=by
  have hc : c ∈ o.op.operands:=by simp [hop,Op.operands]
  have hx : x ∈ o.op.operands:=by simp [hop,Op.operands]
  have hy : y ∈ o.op.operands:=by simp [hop,Op.operands]
  unfold opPick at h
  split at h
  · rename_i t p q hc' hx' hy'
    refine fin_done ho hw hg h fun w0 own σ u a' w hf hr=>?_
    have h1:=opd_rel hf (mem_rdAll hc hsub hr) hc'
    have h2:=opd_rel hf (mem_rdAll hx hsub hr) hx'
    have h3:=opd_rel hf (mem_rdAll hy hsub hr) hy'
    simp only [Rel] at h1 h2 h3
    refine ⟨.bool (cond t p q),?_,by simp only [Rel]⟩
    simp only [execOp,hop,h1,h2,h3,asBool,Sem.run_bind,Sem.run_pure,Result.andThen_ok]
    cases t <;> rfl
  · rename_i t p q _ hc' hx' hy'
    cases t with
    | true =>
      simp only [cond] at h
      refine fin_done ho hw hg h fun w0 own σ u a' w hf hr=>?_
      have h1:=opd_rel hf (mem_rdAll hc hsub hr) hc'
      simp only [Rel] at h1
      refine ⟨a'.eval x,?_,opd_rel hf (mem_rdAll hx hsub hr) hx'⟩
      simp only [execOp,hop,h1,asBool,Sem.run_bind,Sem.run_pure,Result.andThen_ok,if_true]
    | false =>
      simp only [cond] at h
      refine fin_done ho hw hg h fun w0 own σ u a' w hf hr=>?_
      have h1:=opd_rel hf (mem_rdAll hc hsub hr) hc'
      simp only [Rel] at h1
      refine ⟨a'.eval y,?_,opd_rel hf (mem_rdAll hy hsub hr) hy'⟩
      simp only [execOp,hop,h1,asBool,Sem.run_bind,Sem.run_pure,Result.andThen_ok,Bool.false_eq_true,if_false]
  · cases h
theorem opLoad_done {t : TypeId} {x : Operand} (hop : o.op = .load t x) (ho : ops[i]? = some o) (hw : Want N ops o rd) (hg : Good tmps heap rd) (hsub : ∀ p ∈ rdAll tmps o,p ∈ rd) (h : opLoad P N tmps heap o rd t x K = some res) : Done P N ops i tmps heap lo hi K res:=by
  have hx : x ∈ o.op.operands:=by simp [hop,Op.operands]
  unfold opLoad at h
  split at h
  · rename_i b off ha
    split at h
    · rename_i e cs hh
      split at h
      · rename_i r hl
        refine fin_done ho (fun w0 own σ u a w hf hr=>hw w0 own σ u a w hf fun y hy=>hr y (List.mem_cons_of_mem _ hy)) (hg.cons hh) h fun w0 own σ u a' w hf hr=>?_
        have h1:=opd_rel hf (mem_rdAll hx (fun p hp=>List.mem_cons_of_mem _ (hsub p hp)) hr) ha
        simp only [Rel] at h1
        obtain ⟨rr,hr1,e1⟩:=h1
        obtain ⟨r2,vs,hr2,hheap,hrels⟩:=hf.row b e cs (hr (.blk b,.row e cs) (List.mem_cons_self ..))
        rw [hr1] at hr2
        cases hr2
        obtain ⟨v,hv,hrel⟩:=loadA_run hl hheap hrels
        refine ⟨v,?_,hrel⟩
        simp only [execOp,hop,Instr.loadAt,e1,Instr.sureAddr,Sem.run_bind,Sem.run_pure,Result.andThen_ok,hv]
      · cases h
    · cases h
  · cases h
theorem opStore_done {t : TypeId} {x y : Operand} (hop : o.op = .store t x y) (ho : ops[i]? = some o) (hw : Want N ops o rd) (hg : Good tmps heap rd) (hsub : ∀ p ∈ rdAll tmps o,p ∈ rd) (h : opStore P tmps heap o rd t x y K = some res) : Done P N ops i tmps heap lo hi K res:=by
  have hx : x ∈ o.op.operands:=by simp [hop,Op.operands]
  have hy : y ∈ o.op.operands:=by simp [hop,Op.operands]
  unfold opStore at h
  split at h
  · cases h
  · rename_i hdst
    split at h
    · rename_i b off v ha hv
      split at h
      · rename_i e cs hh
        split at h
        · rename_i cs' hs
          refine ⟨_,_,h,hg.cons hh,exec_of_wp ho (fun w0 own σ u a w hf hr=>hw w0 own σ u a w hf fun y hy=>hr y (List.mem_cons_of_mem _ hy)) fun Q w0 own σ u a w hf hr hn K' hK=>?_⟩
          have hsub' : ∀ p ∈ rdAll tmps o,p ∈ (Loc.blk b,Con.row e cs) :: rd:=fun p hp=>List.mem_cons_of_mem _ (hsub p hp)
          have h1:=opd_rel hf (mem_rdAll hx hsub' hr) ha
          have h2:=opd_rel hf (mem_rdAll hy hsub' hr) hv
          simp only [Rel] at h1
          obtain ⟨rr,hr1,e1⟩:=h1
          obtain ⟨r2,vs,hr2,hheap,hrels⟩:=hf.row b e cs (hr (.blk b,.row e cs) (List.mem_cons_self ..))
          rw [hr1] at hr2
          cases hr2
          obtain ⟨vs',hrun,hrels'⟩:=storeA_run hs h2 hheap hrels
          unfold Oper.wp
          simp only [execOp,hop,Instr.storeAt,e1,Instr.sureAddr,Sem.run_bind,Sem.run_pure,Result.andThen_ok,hrun,Oper.upon]
          refine hK σ _ _ (Le.refl σ) (fun _ h _=>h) ?_
          rw [hdst]
          exact hf.setRow hr1 (hr (.blk b,.row e cs) (List.mem_cons_self ..)) hheap hrels'
        · cases h
      · cases h
    · cases h
theorem opAlloc_done {e : TypeId} (hop : o.op = .alloc e) (ho : ops[i]? = some o) (hw : Want N ops o rd) (hg : Good tmps heap rd) (h : opAlloc P N o rd e lo hi K = some res) : Done P N ops i tmps heap lo hi K res:=by
  unfold opAlloc at h
  split at h
  · rename_i ti hi' hlt
    have hlt:=of_decide_eq_true hlt
    split at h
    · rename_i z hz
      obtain ⟨rd',wr,h1,rfl,h2⟩:=fin_value (P:=P) (lo:=lo) (hi:=hi) ho h hw fun w0 own σ u a w hf hr hn=>by
        obtain ⟨h3,h4⟩:=hf.alloc (hn lo (Nat.le_refl _) hlt) (e:=e) (Rels.vals (σ:=σ) z.cells.toList)
        refine ⟨_,.pointer (some ⟨w.heap.size,0,none⟩),_,?_,h4,?_,h3,?_⟩
        · simp only [execOp,hop,Instr.alloc,Sem.run_bind,run_zeroValue hi' hz,Result.andThen_ok,newVar,newRow,run_newObj,Sem.run_pure,World.alloc_eq,Array.toArray_toList]
        · intro b hb hb2
          show (if b = lo then _ else σ b) = none
          rw [if_neg (by omega)]; exact hb
        · simp only [Rel]; exact ⟨w.heap.size,by simp,rfl⟩
      exact ⟨rd',wr,h1,hg,h2⟩
    · cases h
  · cases h
theorem opBox_done {e : TypeId} {x : Operand} (hop : o.op = .box e x) (ho : ops[i]? = some o) (hw : Want N ops o rd) (hg : Good tmps heap rd) (hsub : ∀ p ∈ rdAll tmps o,p ∈ rd) (h : opBox N tmps o rd e x lo hi K = some res) : Done P N ops i tmps heap lo hi K res:=by
  have hx : x ∈ o.op.operands:=by simp [hop,Op.operands]
  unfold opBox at h
  split at h
  · rename_i v hv hlt
    have hlt:=of_decide_eq_true hlt
    split at h
    · rename_i cs hcs
      obtain ⟨rd',wr,h1,rfl,h2⟩:=fin_value (P:=P) (lo:=lo) (hi:=hi) ho h hw fun w0 own σ u a w hf hr hn=>by
        have hx1:=opd_rel hf (mem_rdAll hx hsub hr) hv
        obtain ⟨h3,h4⟩:=hf.alloc (hn lo (Nat.le_refl _) hlt) (e:=e) (cellsOf_rels hx1 hcs)
        refine ⟨_,.pointer (some ⟨w.heap.size,0,none⟩),_,?_,h4,?_,h3,?_⟩
        · simp only [execOp,hop,Instr.box,Sem.run_bind,Result.andThen_ok,newVar,newRow,run_newObj,Sem.run_pure,World.alloc_eq,Array.toArray_toList]
        · intro b hb hb2
          show (if b = lo then _ else σ b) = none
          rw [if_neg (by omega)]; exact hb
        · simp only [Rel]; exact ⟨w.heap.size,by simp,rfl⟩
      exact ⟨rd',wr,h1,hg,h2⟩
    · cases h
  · cases h
theorem run_equalIn_ptr_nil {t e : TypeId} (hu : P.underlying t = some (.pointer e)) (d : Nat) (ad : Addr) (w : World) : (Op.equalIn (d + 1) t (.pointer (some ad)) (.pointer none)).run P w = .ok false w:=by
  simp only [Op.equalIn,Sem.run_bind,run_underlying hu,Result.andThen_ok,Sem.run_pure]
theorem run_bin_ptr_nil {t e : TypeId} (hu : P.underlying t = some (.pointer e)) (ad : Addr) (w : World) : (binOp .eql t (.pointer (some ad)) (.pointer none)).run P w = .ok (.bool false) w ∧ (binOp .neq t (.pointer (some ad)) (.pointer none)).run P w = .ok (.bool true) w:=by
  have h : (Op.equal t (.pointer (some ad)) (.pointer none)).run P w = .ok false w:=run_equalIn_ptr_nil hu 9999 ad w
  refine ⟨?_,?_⟩
  · show ((do pure (.bool (← Op.equal t (.pointer (some ad)) (.pointer none)))) : Sem Value).run P w = _
    rw [Sem.run_bind,h]; rfl
  · show ((do pure (.bool (!(← Op.equal t (.pointer (some ad)) (.pointer none))))) : Sem Value).run P w = _
    rw [Sem.run_bind,h]; rfl
theorem opBin_done {op : BinOp} {t ty : TypeId} {x y : Operand} (hop : o.op = .binOp op t x y ty) (ho : ops[i]? = some o) (hw : Want N ops o rd) (hg : Good tmps heap rd) (hsub : ∀ p ∈ rdAll tmps o,p ∈ rd) (h : opBin P N tmps o rd op t x y K = some res) : Done P N ops i tmps heap lo hi K res:=by
  have hx : x ∈ o.op.operands:=by simp [hop,Op.operands]
  have hy : y ∈ o.op.operands:=by simp [hop,Op.operands]
  unfold opBin at h
  split at h
  · rename_i k a k' b ha hb
    have hval : ∀ w0 own σ u a' w,Fits N w0 own σ u a' w→(∀ x ∈ rd,u x.1 = some x.2)→a'.eval x = .int k a ∧ a'.eval y = .int k' b:=by
      intro w0 own σ u a' w hf hr
      have h1:=opd_rel hf (mem_rdAll hx hsub hr) ha
      have h2:=opd_rel hf (mem_rdAll hy hsub hr) hb
      simp only [Rel] at h1 h2
      exact ⟨h1,h2⟩
    split at h
    · by_cases hb0 : b < 0
      · simp [hb0] at h
      · simp only [hb0,decide_false,cond_false] at h
        refine fin_done ho hw hg h fun w0 own σ u a' w hf hr=>⟨.int k (k.wrap (a * 2 ^ min b.toNat k.bits)),?_,by simp only [Rel]⟩
        obtain ⟨h1,h2⟩:=hval w0 own σ u a' w hf hr
        simp only [execOp,hop,h1,h2,eqGuard_at_int,binOp_shl,Op.shift,Sem.run_bind,Sem.run_pure,Result.andThen_ok,if_neg hb0]
    · by_cases hb0 : b < 0
      · simp [hb0] at h
      · simp only [hb0,decide_false,cond_false] at h
        refine fin_done ho hw hg h fun w0 own σ u a' w hf hr=>⟨.int k (a.fdiv (2 ^ min b.toNat k.bits)),?_,by simp only [Rel]⟩
        obtain ⟨h1,h2⟩:=hval w0 own σ u a' w hf hr
        simp only [execOp,hop,h1,h2,eqGuard_at_int,binOp_shr,Op.shift,Sem.run_bind,Sem.run_pure,Result.andThen_ok,if_neg hb0]
    · split at h
      · rename_i hk
        have hk:=of_decide_eq_true hk
        subst hk
        by_cases hb0 : b = 0
        · simp [hb0] at h
        · have : (b == 0) = false:=by simpa using hb0
          rw [this,cond_false] at h
          refine fin_done ho hw hg h fun w0 own σ u a' w hf hr=>⟨.int k (k.wrap (a.tdiv b)),?_,by simp only [Rel]⟩
          obtain ⟨h1,h2⟩:=hval w0 own σ u a' w hf hr
          simp only [execOp,hop,h1,h2,eqGuard_at_int,binOp_quo,Op.intDiv,Sem.run_bind,Sem.run_pure,Result.andThen_ok,if_neg hb0]
      · cases h
    · split at h
      · rename_i hk
        have hk:=of_decide_eq_true hk
        subst hk
        by_cases hb0 : b = 0
        · simp [hb0] at h
        · have : (b == 0) = false:=by simpa using hb0
          rw [this,cond_false] at h
          refine fin_done ho hw hg h fun w0 own σ u a' w hf hr=>⟨.int k (a.tmod b),?_,by simp only [Rel]⟩
          obtain ⟨h1,h2⟩:=hval w0 own σ u a' w hf hr
          simp only [execOp,hop,h1,h2,eqGuard_at_int,binOp_rem,Op.intDiv,Sem.run_bind,Sem.run_pure,Result.andThen_ok,if_neg hb0]
      · cases h
    · exact opVal_done ho hw hg hsub h
  · rename_i b off ha hb
    split at h
    · rename_i e hu
      refine fin_done ho hw hg h fun w0 own σ u a' w hf hr=>⟨.bool false,?_,by simp only [Rel]⟩
      have h1:=opd_rel hf (mem_rdAll hx hsub hr) ha
      have h2:=opd_rel hf (mem_rdAll hy hsub hr) hb
      simp only [Rel] at h1 h2
      obtain ⟨r,_,h1⟩:=h1
      simp only [execOp,hop,h1,h2,eqGuard_at_pointer,Sem.run_bind,Sem.run_pure,Result.andThen_ok,(run_bin_ptr_nil hu _ w).1]
    · rename_i e hu
      refine fin_done ho hw hg h fun w0 own σ u a' w hf hr=>⟨.bool true,?_,by simp only [Rel]⟩
      have h1:=opd_rel hf (mem_rdAll hx hsub hr) ha
      have h2:=opd_rel hf (mem_rdAll hy hsub hr) hb
      simp only [Rel] at h1 h2
      obtain ⟨r,_,h1⟩:=h1
      simp only [execOp,hop,h1,h2,eqGuard_at_pointer,Sem.run_bind,Sem.run_pure,Result.andThen_ok,(run_bin_ptr_nil hu _ w).2]
    · cases h
  · rename_i a b ha hb
    split at h
    · by_cases hb0 : ((a.size + b.size : Nat) : Int) > 9223372036854775807
      · rw [decide_eq_true hb0,cond_true] at h; cases h
      · rw [decide_eq_false hb0,cond_false] at h
        refine fin_done ho hw hg h fun w0 own σ u a' w hf hr=>⟨.string (a ++ b),?_,by simp only [Rel]⟩
        have h1:=opd_rel hf (mem_rdAll hx hsub hr) ha
        have h2:=opd_rel hf (mem_rdAll hy hsub hr) hb
        simp only [Rel] at h1 h2
        have hrun:=run_string_add_sum (P:=P) (w:=w) a b (by omega)
        have e0 : Go.binOp .add t (.string a) (.string b) = Op.stringOp .add a b:=rfl
        simp only [execOp,hop,h1,h2,eqGuard_at_string,e0,Sem.run_bind,Sem.run_pure,Result.andThen_ok,hrun]
    · exact opVal_done ho hw hg hsub h
  · rename_i xs ys ha hb
    split at h
    · rename_i r hm he
      refine fin_done ho hw hg h fun w0 own σ u a' w hf hr=>⟨.bool r,?_,by simp only [Rel]⟩
      have h1:=opd_rel hf (mem_rdAll hx hsub hr) ha
      have h2:=opd_rel hf (mem_rdAll hy hsub hr) hb
      simp only [Rel] at h1 h2
      simp only [execOp,hop,h1,h2,Sem.run_bind,Sem.run_pure,Result.andThen_ok,run_eqGuard_agg w .eql t x y xs ys hm,run_eql_struct,run_eqT 100 10000 t _ _ r w (by omega) he]
    · rename_i r hm he
      refine fin_done ho hw hg h fun w0 own σ u a' w hf hr=>⟨.bool (!r),?_,by simp only [Rel]⟩
      have h1:=opd_rel hf (mem_rdAll hx hsub hr) ha
      have h2:=opd_rel hf (mem_rdAll hy hsub hr) hb
      simp only [Rel] at h1 h2
      simp only [execOp,hop,h1,h2,Sem.run_bind,Sem.run_pure,Result.andThen_ok,run_eqGuard_agg w .neq t x y xs ys hm,run_neq_struct,run_eqT 100 10000 t _ _ r w (by omega) he]
    · cases h
  · exact opVal_done ho hw hg hsub h
end
end Go.Ab
