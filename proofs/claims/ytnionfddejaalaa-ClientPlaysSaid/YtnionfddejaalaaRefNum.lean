/-
  Walks of the document's Num, Text, Yes: the same bytes.
-/
import Derived.Test.YtnionfddejaalaaNumLaw
namespace Go.Proofs.Ytnionfddejaalaa
set_option linter.unusedVariables false
set_option linter.unusedSimpArgs false
open Go.RowKit

theorem below_put {w wr W : World} {base : Nat} {e : TypeId} {v y : Value} {n : Nat} {xs : List Value} (hB : base ≤ w.heap.size) (hw : w.heap.size ≤ base) (hb : Below w.heap.size w wr) (ho : wr.ownsRow base e 1 v n xs) {t : TypeId} (h : (wr.alloc (.cells #[y] t)).grownBy W v.ownBlock) : Below w.heap.size w W :=
  Below.trans hb (((Below.refl w.heap.size wr).alloc hb.size _).grown h (Nat.le_trans hb.size (by simp)) (fun k hk => by have := ho.lt k hk; omega))

end Go.Proofs.Ytnionfddejaalaa
