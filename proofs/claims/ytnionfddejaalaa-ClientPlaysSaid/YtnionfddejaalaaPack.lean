/-
  Walks of package pack: what a writer puts.
-/
import Derived.Test.YtnionfddejaalaaFrm
import Derived.Test.YtnionfddejaalaaHeldR
import Derived.Laws.BitsAllLaws
namespace Go.Proofs.Ytnionfddejaalaa
set_option linter.unusedVariables false
set_option linter.unusedSimpArgs false
open Go.RowKit

/-- a number's bytes, seven bits a byte; at most f of them -/
def numF : Nat → Nat → List UInt8
  | 0, _ => []
  | f + 1, n => if n < 128 then [UInt8.ofNat n] else UInt8.ofNat (n % 128 + 128) :: numF f (n / 128)
def numB (n : Nat) : List UInt8 := numF 10 n
theorem numF_len : ∀ (f n : Nat), (numF f n).length ≤ f
  | 0, _ => by simp [numF]
  | f + 1, n => by
    unfold numF
    split
    · simp
    · simp; exact numF_len f _

section
variable {w w' : World} {base P : Nat} {l : List UInt8} {g : Option Nat}
end

theorem or_all : ∀ n : Fin 256, bits BinOp.or IntKind.u8 (n.val : Int) 128 = ((n.val % 128 + 128 : Nat) : Int) := by decide +kernel
theorem or128 (x : Nat) : bits BinOp.or IntKind.u8 ((x : Int) % 256) 128 = ((UInt8.ofNat (x % 128 + 128)).toNat : Int) := by
  have h := or_all ⟨x % 256, by omega⟩
  simp only at h
  rw [show ((x : Int) % 256) = ((x % 256 : Nat) : Int) by omega, h, UInt8.toNat_ofNat']
  omega

end Go.Proofs.Ytnionfddejaalaa
