/-
  Walks of package pack, further: a reader takes a text, a yes; its end; a reader that is none.
-/
import Derived.Test.YtnionfddejaalaaPackRd
namespace Go.Proofs.Ytnionfddejaalaa
set_option linter.unusedVariables false
set_option linter.unusedSimpArgs false
open Go.RowKit

def rdText (l : List UInt8) (bad : Bool) (most : Nat) : List UInt8 × List UInt8 × Bool :=
  if (rdNum l bad most).2.2 then ([], (rdNum l bad most).2.1, true)
  else if (rdNum l bad most).2.1.length < (rdNum l bad most).1 then ([], (rdNum l bad most).2.1, true)
  else ((rdNum l bad most).2.1.take (rdNum l bad most).1, (rdNum l bad most).2.1.drop (rdNum l bad most).1, false)
theorem Sl.take' {α : Type} {f : α → Value} {w : World} {A : Option Addr} {l : List α} (h : Sl f w A l) (k : Nat) : Sl f w A (l.take k) := fun j v hj => by
  rw [List.getElem?_take] at hj
  split at hj
  · exact h j v hj
  · cases hj
theorem rdGo_len (most : Nat) : ∀ (l : List UInt8) (i v : Nat) (x : Nat × List UInt8), rdGo most i v l = some x → x.2.length ≤ l.length ∧ x.1 ≤ most
  | [], i, v, x, h => by simp [rdGo] at h
  | c :: r, i, v, x, h => by
    unfold rdGo at h
    split at h
    · cases h
    · split at h
      · have := rdGo_len most r _ _ x h
        simp; omega
      · split at h
        · cases h
        · rename_i h1
          injection h with h
          subst h
          simp; omega
theorem rdNum_len (l : List UInt8) (bad : Bool) (most : Nat) : (rdNum l bad most).2.1.length ≤ l.length ∧ (rdNum l bad most).1 ≤ most := by
  unfold rdNum
  split
  · simp
  · split
    · rename_i v r h
      have := rdGo_len most l 0 0 _ h
      simpa using this
    · simp

/-- what a reader's End answers -/
def endN (l : List UInt8) (bad : Bool) : Int := if bad then 2 else if l.length = 0 then 0 else 9
end Go.Proofs.Ytnionfddejaalaa
