/-
  For the walks of the law PastFront.
-/
import Derived.Test.YtnionfddejaalaaTwoPast
import Derived.Test.YtnionfddejaalaaTold22
import Derived.Test.YtnionfddejaalaaFrontLaw
import Derived.Test.YtnionfddejaalaaOpenOps22
import Derived.Test.YtnionfddejaalaaHeldZ
namespace Go.Proofs.Ytnionfddejaalaa
set_option linter.unusedVariables false
set_option linter.unusedSimpArgs false
open Go.RowKit Go.ChangeShapes Go.WideShapes Go.Joins Go.Deep

theorem rem_of (a : Int) {n : Nat} (hn : 0 < n) : ∃ k : Nat, k < n ∧ (IntKind.u64.wrap a).tmod (n : Int) = (k : Int) := by
  have hw : 0 ≤ IntKind.u64.wrap a := by
    rw [show IntKind.u64.wrap a = a % 18446744073709551616 by simp [IntKind.wrap, IntKind.bits, IntKind.signed]]; omega
  have e := Int.tmod_eq_emod_of_nonneg (b := (n : Int)) hw
  have e2 := Int.emod_nonneg (IntKind.u64.wrap a) (show (n : Int) ≠ 0 by omega)
  have e3 := Int.emod_lt_of_pos (IntKind.u64.wrap a) (show (0 : Int) < (n : Int) by omega)
  exact ⟨((IntKind.u64.wrap a).tmod (n : Int)).toNat, by omega, by omega⟩
theorem Sm.le {st : Ps} {j k : Nat} (h : Sm st j) (hk : j ≤ k) : Sm st k := ⟨h.ok, h.run, Nat.le_trans h.len hk, h.sm, h.qd⟩

end Go.Proofs.Ytnionfddejaalaa
