/-
  The told rows of the laws of chapter 12.
-/
import Derived.Test.YtkdcbidbciognaaChWithout
import Derived.Test.YtkdcbidbciognaaChNext
namespace Go.Proofs.Ytkdcbidbciognaa
set_option linter.unusedVariables false
set_option linter.unusedSimpArgs false
open Go.RowKit

end Go.Proofs.Ytkdcbidbciognaa
