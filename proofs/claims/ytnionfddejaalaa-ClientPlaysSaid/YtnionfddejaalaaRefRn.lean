/-
  Walks of the document's reader, further: Num.
-/
import Derived.Test.YtnionfddejaalaaRefR
namespace Go.Proofs.Ytnionfddejaalaa
set_option linter.unusedVariables false
set_option linter.unusedSimpArgs false
open Go.RowKit

/-- what the document's reader answers for a number -/
def rfNum (l : List UInt8) (bad : Bool) (most : Nat) : Nat × List UInt8 × Bool :=
  if bad then (0, [], true) else match rdGo most 0 0 l with | some (v, r) => (v, r, false) | none => (0, [], true)
theorem and127u (c : UInt8) : bits BinOp.and IntKind.u64 (c.toNat : Int) 127 = ((c.toNat % 128 : Nat) : Int) := by
  have h := u64_and_nat c.toNat 127 (by have := c.toNat_lt; omega) (by decide)
  rw [show (127 : Nat) = 2 ^ 7 - 1 by decide, Nat.and_two_pow_sub_one_eq_mod] at h
  exact h

end Go.Proofs.Ytnionfddejaalaa
