/-
  A request's bytes, written: item.PutReq; numbers of a list.
-/
import Derived.Test.YtnionfddejaalaaItemLaw2
namespace Go.Proofs.Ytnionfddejaalaa
set_option linter.unusedVariables false
set_option linter.unusedSimpArgs false
open Go.RowKit

theorem numsB_snoc : ∀ (a : List Nat) (x : Nat), numsB (a ++ [x]) = numsB a ++ numB x
  | [], x => by simp [numsB]
  | y :: r, x => by rw [List.cons_append, numsB, numsB_snoc r x, numsB, List.append_assoc]
theorem numsB_len : ∀ (a : List Nat), (numsB a).length ≤ 10 * a.length
  | [] => by simp [numsB]
  | y :: r => by
    have := numsB_len r
    have h : (numB y).length ≤ 10 := numF_len 10 y
    rw [numsB, List.length_append, List.length_cons]; omega
theorem wrap_u64I (n : Nat) (h : n < 18446744073709551616) : IntKind.u64.wrap (n : Int) = (n : Int) := IntKind.wrap_u64_nat n h

theorem ints_len (ns : List Nat) : (ints ns).length = ns.length := by simp [ints]

end Go.Proofs.Ytnionfddejaalaa
