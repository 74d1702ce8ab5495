/-
  The told rows of the laws of chapter 1.
-/
import Derived.Test.YtdbnaflaobncgaaCrc
namespace Go.Proofs.Ytdbnaflaobncgaa
set_option linter.unusedVariables false
set_option linter.unusedSimpArgs false
open Go.RowKit

theorem WrTo.low {w w' : World} {base P : Nat} {l : List UInt8} {g : Option Nat} {B : Nat} (h : WrTo w w' base P l g) (hP : B ≤ P) (hg : ∀ k, g = some k → B ≤ k) (hB : B ≤ w.heap.size) : Below B w w' := by
  obtain ⟨g', _, h2, _⟩ := h
  exact h2.below hB (fun k hk => by
    rcases hk with hk | hk
    · omega
    · exact hg k hk.symm)

theorem kcP (w : World) (C : Array Value) (n c : Nat) : (convert 54 54 (.slice (some ⟨w.heap.size, 0, none⟩) n c)).run Try.prog (w.alloc (.cells C 5)) = .ok (.slice (some ⟨w.heap.size, 0, none⟩) n c) (w.alloc (.cells C 5 (C.size, C.size + 1))) :=
  Lib.run_convert_bytes_const (P := Try.prog) w _ _ C n c Try.underlying54 Try.underlying5
theorem sl_constP (w : World) (b : List UInt8) (m : Nat × Nat) : Sl u8 (w.alloc (.cells (b.map u8).toArray 5 m)) (some ⟨w.heap.size, 0, none⟩) b := fun j v hj =>
  ⟨_, 0, rfl, by rw [Nat.zero_add, World.cell?_alloc_mark]; simp [hj]⟩
theorem crc_const : crcN [49, 50, 51, 52, 53, 54, 55, 56, 57] = 3421780262 := by decide +kernel

end Go.Proofs.Ytdbnaflaobncgaa
