/-
  Walks of package pack, further: all that was put; a writer that is none; a reader: made, failed.
-/
import Derived.Test.YtnionfddejaalaaPack2
namespace Go.Proofs.Ytnionfddejaalaa
set_option linter.unusedVariables false
set_option linter.unusedSimpArgs false
open Go.RowKit

section
variable {w w' : World} {P : Nat} {l : List UInt8} {b : Bool}
theorem Sl.frm' {α : Type} {f : α → Value} {s : Nat → Prop} {A : Option Addr} {l : List α} (h : Sl f w A l) (hf : Frm s w w') (hg : ∀ a, A = some a → ¬ s a.block) : Sl f w' A l := by
  rcases A with _ | a
  · intro j v hj
    obtain ⟨b, o, e, _⟩ := h j v hj
    cases e
  · exact Sl.frm h hf (hg a rfl)
end

end Go.Proofs.Ytnionfddejaalaa
