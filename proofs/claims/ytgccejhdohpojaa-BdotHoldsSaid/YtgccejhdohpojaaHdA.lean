/- A part of the proof of 'BdotHolds': lemmas, no statement of their own; no condition. -/
import Derived.Test.YtgccejhdohpojaaBsB
import Derived.Test.YtgccejhdohpojaaMaE
/- BdotHolds: the pieces of its code. -/
namespace Go.Ab
open Go Go.Proofs
noncomputable def hC : Code := Try.f12.body.getD .skip
noncomputable def h0 : Code := seqL hC
noncomputable def h1 : Code := seqL (seqR hC)
noncomputable def h3 : Code := seqL (seqR (seqR hC))
noncomputable def hT : Code := seqR (seqR (seqR hC))
noncomputable def h5 : Code := seqL hT
noncomputable def h6 : Code := seqL (seqR hT)
noncomputable def h7 : Code := seqL (seqR (seqR hT))
noncomputable def h8 : Code := seqL (seqR (seqR (seqR hT)))
noncomputable def hU : Code := seqR (seqR (seqR (seqR hT)))
noncomputable def h9 : Code := seqL (seqL hU)
noncomputable def hE : Code := seqR hU
noncomputable def hL : Code := inB (inB (seqR (seqL hU)))
noncomputable def h10 : Code := seqL hL
noncomputable def hM : Code := inB (seqL (seqR (seqR hL)))
noncomputable def h32 : Code := seqR (seqR (seqR hL))
noncomputable def o11 : Array Oper := regO (seqL hM)
noncomputable def h12 : Code := seqL (seqR hM)
noncomputable def h13 : Code := seqL (seqL (seqR (seqR hM)))
noncomputable def o14 : Array Oper := regO (ifT (seqR (seqL (seqR (seqR hM)))))
noncomputable def h15 : Code := seqL (seqR (seqR (seqR hM)))
noncomputable def hV : Code := seqR (seqR (seqR (seqR hM)))
noncomputable def h16 : Code := seqL (seqL hV)
noncomputable def hK : Code := inB (inB (seqR (seqL hV)))
noncomputable def hW : Code := seqR hV
noncomputable def h17 : Code := seqL hK
noncomputable def hN : Code := inB (seqL (seqR (seqR hK)))
noncomputable def h24 : Code := seqR (seqR (seqR hK))
noncomputable def h18 : Code := seqL hN
noncomputable def h19 : Code := seqL (seqR hN)
noncomputable def h21 : Code := seqL (seqR (seqR hN))
noncomputable def o22 : Array Oper := regO (seqL (ifT (seqR (seqR (seqR hN)))))
noncomputable def h23 : Code := seqR (ifT (seqR (seqR (seqR hN))))
theorem hC_is : Try.f12.body = some (.seq h0 (.seq h1 (.seq h3 (.seq h5 (.seq h6 (.seq h7 (.seq h8 (.seq (.seq h9 (.block 0 (.loop hL))) hE)))))))) := by kernel_rfl
theorem hL_is : hL = .seq h10 (.seq (.cond (.tmp 27) .skip (.exit 0)) (.seq (.block 1 (.seq (.region 11 o11 false) (.seq h12 (.seq (.seq h13 (.cond (.tmp 34) (.region 14 o14 false) .skip)) (.seq h15 (.seq (.seq h16 (.block 2 (.loop hK))) hW)))))) h32)) := by kernel_rfl
theorem hK_is : hK = .seq h17 (.seq (.cond (.tmp 46) .skip (.exit 2)) (.seq (.block 3 (.seq h18 (.seq h19 (.seq h21 (.cond (.tmp 56) (.seq (.region 22 o22 false) h23) .skip))))) h24)) := by kernel_rfl
def hdG (st : Bool → StA → Dr × Bool) : Gam := [(57, S0 fun (_ : Unit) => true), (58, Sc 25 stepPre st)]
theorem hdG_ok : GamOk Try.prog (hdG stepV) := .cons ok57 (.cons ok58 .nil)
end Go.Ab
