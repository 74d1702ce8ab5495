/-
  The told rows of the laws of chapter 1.
-/
import Derived.Test.YtnionfddejaalaaCrc
namespace Go.Proofs.Ytnionfddejaalaa
set_option linter.unusedVariables false
set_option linter.unusedSimpArgs false
open Go.RowKit

theorem sl_constP (w : World) (b : List UInt8) (m : Nat × Nat) : Sl u8 (w.alloc (.cells (b.map u8).toArray 5 m)) (some ⟨w.heap.size, 0, none⟩) b := fun j v hj =>
  ⟨_, 0, rfl, by rw [Nat.zero_add, World.cell?_alloc_mark]; simp [hj]⟩
theorem crc_const : crcN [49, 50, 51, 52, 53, 54, 55, 56, 57] = 3421780262 := by decide +kernel

end Go.Proofs.Ytnionfddejaalaa
