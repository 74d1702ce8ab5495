/-
  Two lists of numbers, compared by slices.Equal.
-/
import Derived.Test.YtdbnaflaobncgaaBase
namespace Go.Proofs.Ytdbnaflaobncgaa
set_option linter.unusedVariables false
set_option linter.unusedSimpArgs false
open Go.RowKit

end Go.Proofs.Ytdbnaflaobncgaa
