/-
  Walks of package pack, further: the check sum, by its table.
-/
import Derived.Test.YtnionfddejaalaaPackRt
namespace Go.Proofs.Ytnionfddejaalaa
set_option linter.unusedVariables false
set_option linter.unusedSimpArgs false
open Go.RowKit

/-- one bit's step -/
def stepN (c : Nat) : Nat := (c / 2) ^^^ (3988292384 * (c % 2))
def stepsN : Nat → Nat → Nat
  | 0, c => c
  | k + 1, c => stepN (stepsN k c)
def crcGo : Nat → List UInt8 → Nat
  | c, [] => c
  | c, x :: r => crcGo ((c / 256) ^^^ stepsN 8 ((c % 256) ^^^ x.toNat)) r
def crcN (l : List UInt8) : Nat := 4294967295 ^^^ crcGo 4294967295 l

theorem stepN_lt (x : Nat) (h : x < 4294967296) : stepN x < 4294967296 := by
  unfold stepN
  exact Nat.xor_lt_two_pow (n := 32) (by omega) (by omega)
theorem stepsN_lt : ∀ (k x : Nat), x < 4294967296 → stepsN k x < 4294967296
  | 0, x, h => h
  | k + 1, x, h => stepN_lt _ (stepsN_lt k x h)
theorem step_int (x : Nat) (h : x < 4294967296) : bits BinOp.xor IntKind.u32 ((x : Int) / 2) (3988292384 * bits BinOp.and IntKind.u32 (x : Int) 1 % 4294967296) = (stepN x : Nat) := by
  have h1 : bits BinOp.and IntKind.u32 (x : Int) 1 = ((x % 2 : Nat) : Int) := by
    have := u32_and_nat x 1 h (by decide)
    rw [nat_mask1] at this
    exact this
  rw [h1]
  have e1 : ((x : Int) / 2) = ((x / 2 : Nat) : Int) := by omega
  have e2 : (3988292384 * ((x % 2 : Nat) : Int) % 4294967296) = ((3988292384 * (x % 2) : Nat) : Int) := by omega
  rw [e1, e2, u32_xor_nat _ _ (by omega) (by omega)]
  rfl
theorem xor32_int (a b : Nat) (ha : a < 4294967296) (hb : b < 4294967296) : bits BinOp.xor IntKind.u32 (a : Int) (b : Int) = ((a ^^^ b : Nat) : Int) := u32_xor_nat a b ha hb
theorem xor32_int' (a b : Nat) (ha : a < 4294967296) (hb : b < 4294967296) : bits BinOp.xor IntKind.u32 ((a : Int) / 256) (b : Int) = ((a / 256 ^^^ b : Nat) : Int) := by
  rw [show ((a : Int) / 256) = ((a / 256 : Nat) : Int) by omega]
  exact u32_xor_nat _ b (by omega) hb
theorem not_int (a : Nat) (ha : a < 4294967296) : bits BinOp.xor IntKind.u32 IntKind.u32.max (a : Int) = ((4294967295 ^^^ a : Nat) : Int) := u32_xor_nat 4294967295 a (by decide) ha
theorem xor32_lt (a b : Nat) (ha : a < 4294967296) (hb : b < 4294967296) : a ^^^ b < 4294967296 := Nat.xor_lt_two_pow (n := 32) ha hb
theorem xor8_int (x : Nat) (c : UInt8) : bits BinOp.xor IntKind.u8 ((x : Int) % 256) (c.toNat : Int) = (((x % 256) ^^^ c.toNat : Nat) : Int) := by
  have e1 : ((x : Int) % 256) = ((x % 256 : Nat) : Int) := by omega
  rw [e1, u8_xor_nat _ _ (by omega) c.toNat_lt]
theorem idx_lt256 (x : Nat) (c : UInt8) : (x % 256) ^^^ c.toNat < 256 := Nat.xor_lt_two_pow (n := 8) (by omega) c.toNat_lt
/-- the table when k of its cells are made -/
def tabC (k : Nat) : Array Value := ((List.range 256).map fun i => Value.int .u32 (if i < k then (stepsN 8 i : Nat) else 0 : Int)).toArray
theorem tabC_size (k : Nat) : (tabC k).size = 256 := by simp [tabC]
theorem tabC_get (k i : Nat) (hi : i < 256) : (tabC k)[i]? = some (.int .u32 (if i < k then (stepsN 8 i : Nat) else 0 : Int)) := by
  simp [tabC, hi]
theorem tabC_succ (k : Nat) : (tabC k).setIfInBounds k (.int .u32 (stepsN 8 k : Nat)) = tabC (k + 1) := by
  apply Array.ext
  · simp [tabC]
  · intro i h1 h2
    have hi : i < 256 := by rw [tabC_size] at h2; exact h2
    rw [Array.getElem_setIfInBounds]
    split
    · rename_i e
      subst e
      simp only [tabC, List.getElem_toArray, List.getElem_map, List.getElem_range]
      rw [if_pos (by omega)]
    · rename_i e
      simp only [tabC, List.getElem_toArray, List.getElem_map, List.getElem_range]
      by_cases h : i < k
      · rw [if_pos h, if_pos (by omega)]
      · rw [if_neg h, if_neg (by omega)]
    · rw [tabC_size]; exact hi

end Go.Proofs.Ytnionfddejaalaa
