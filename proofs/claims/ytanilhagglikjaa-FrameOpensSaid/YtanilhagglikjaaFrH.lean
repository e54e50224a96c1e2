/- A part of the proof of 'FrameOpens': lemmas, no statement of their own; no condition. -/
import Derived.Test.YtanilhagglikjaaSuC
import Derived.Test.YtanilhagglikjaaProg
/- Frames as they stand. -/
namespace Go.Ab
open Go Go.Proofs
structure Fr where
  kind : Int
  data : ByteArray
instance : Cod Fr where
  enc x := .agg #[.int .i64 x.kind, .string x.data]
  dec v := match v with | .agg ⟨[.int .i64 k, .string d]⟩ => some ⟨k, d⟩ | _ => none
  law v a h := by split at h <;> simp_all; subst h; simp
end Go.Ab
