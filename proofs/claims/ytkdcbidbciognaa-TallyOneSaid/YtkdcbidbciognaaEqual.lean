/-
  Two lists of numbers, compared by slices.Equal.
-/
import Derived.Test.YtkdcbidbciognaaBase
namespace Go.Proofs.Ytkdcbidbciognaa
set_option linter.unusedVariables false
set_option linter.unusedSimpArgs false
open Go.RowKit

end Go.Proofs.Ytkdcbidbciognaa
