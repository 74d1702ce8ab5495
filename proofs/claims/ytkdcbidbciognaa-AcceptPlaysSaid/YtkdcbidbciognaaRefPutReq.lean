/-
  A request's bytes, the document's; whether a request writes, both.
-/
import Derived.Test.YtkdcbidbciognaaM3
import Derived.Test.YtkdcbidbciognaaM1
import Derived.Laws.Concat
namespace Go.Proofs.Ytkdcbidbciognaa
set_option linter.unusedVariables false
set_option linter.unusedSimpArgs false
open Go.RowKit Go.ChangeShapes Go.WideShapes

theorem str_app (a b : List UInt8) : str (a ++ b) = str a ++ str b := by
  apply ByteArray.ext
  rw [ByteArray.data_append]
  simp [str]

end Go.Proofs.Ytkdcbidbciognaa
