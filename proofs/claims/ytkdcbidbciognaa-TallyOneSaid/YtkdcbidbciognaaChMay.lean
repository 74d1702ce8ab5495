/-
  Walks of package chain, further: a chain that may be, or an error; the document's place of a node.
-/
import Derived.Test.YtkdcbidbciognaaFits
import Derived.Test.YtkdcbidbciognaaHeldR
namespace Go.Proofs.Ytkdcbidbciognaa
set_option linter.unusedVariables false
set_option linter.unusedSimpArgs false
open Go.RowKit

end Go.Proofs.Ytkdcbidbciognaa
