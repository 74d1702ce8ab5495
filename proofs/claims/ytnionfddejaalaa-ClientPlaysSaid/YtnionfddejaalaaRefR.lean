/-
  Walks of the document's reader: wrong, End, Num.
-/
import Derived.Test.YtnionfddejaalaaCanon
import Derived.Test.YtnionfddejaalaaRefNum
namespace Go.Proofs.Ytnionfddejaalaa
set_option linter.unusedVariables false
set_option linter.unusedSimpArgs false
open Go.RowKit

end Go.Proofs.Ytnionfddejaalaa
