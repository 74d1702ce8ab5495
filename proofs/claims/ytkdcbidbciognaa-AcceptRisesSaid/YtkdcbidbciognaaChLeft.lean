/-
  The iterator of package chain: the nodes that are not among some, one by one.
-/
import Derived.Test.YtkdcbidbciognaaChWith
import Derived.RangeFuncNested
import Derived.RangeFuncBound
import Derived.RangeFuncCalls
import Derived.RangeFuncLeaves
import Derived.Shelf.Abstract
import Derived.Shelf.RegionOpen
import Derived.OwnWalkIn
import Derived.TacticsInMore
import Derived.LoopNIn
import Derived.LoopIn
namespace Go.Proofs.Ytkdcbidbciognaa
set_option linter.unusedVariables false
set_option linter.unusedSimpArgs false
open Go.RowKit Go.Shelf
attribute [local go_sem] Oper.semAt_some

/-- those of a list that are not among some -/
def leftL (l gone : List Int) : List Int := l.filter fun x => !decide (x ∈ gone)
theorem leftL_take (l gone : List Int) (k : Nat) (h : k < l.length) : leftL (l.take (k + 1)) gone = leftL (l.take k) gone ++ if l[k] ∈ gone then [] else [l[k]] := by
  unfold leftL
  rw [List.take_succ_eq_append_getElem h, List.filter_append]
  by_cases hx : l[k] ∈ gone <;> simp [hx]
theorem leftL_len (l gone : List Int) : (leftL l gone).length ≤ l.length := List.length_filter_le _ _
theorem leftL_prefix (l gone : List Int) (k : Nat) : leftL (l.take k) gone <+: leftL l gone := by
  refine ⟨leftL (l.drop k) gone, ?_⟩
  unfold leftL
  rw [← List.filter_append, List.take_append_drop]

end Go.Proofs.Ytkdcbidbciognaa
