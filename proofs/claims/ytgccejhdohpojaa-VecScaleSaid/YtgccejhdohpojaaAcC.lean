/- A part of the proof of 'VecScale': lemmas, no statement of their own; no condition. -/
import Derived.Test.YtgccejhdohpojaaAcB
import Derived.Test.YtgccejhdohpojaaAbQ
namespace Go.Ab
/-- 128 bits. -/
structure Wd where
  h : Int
  l : Int
instance : Cod Wd where
  enc v := .agg #[.int .u64 v.h, .int .u64 v.l]
  dec v := match v with | .agg ⟨[.int .u64 x, .int .u64 y]⟩ => some ⟨x, y⟩ | _ => none
  law v a h := by split at h <;> simp_all; subst h; simp
end Go.Ab
