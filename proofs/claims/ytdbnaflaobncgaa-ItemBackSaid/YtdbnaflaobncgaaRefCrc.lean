/-
  The walk of the document's check sum, bit by bit; it is the table's.
-/
import Derived.Test.YtdbnaflaobncgaaTold1
import Derived.Lib.SmallJoins
namespace Go.Proofs.Ytdbnaflaobncgaa
set_option linter.unusedVariables false
set_option linter.unusedSimpArgs false
open Go.RowKit

/-- bit by bit -/
def rcGo : Nat → List UInt8 → Nat
  | c, [] => c
  | c, x :: r => rcGo (stepsN 8 (c ^^^ x.toNat)) r

theorem stepN_xor (a b : Nat) : stepN (a ^^^ b) = stepN a ^^^ stepN b := by
  unfold stepN
  have h1 : (a ^^^ b) / 2 = a / 2 ^^^ b / 2 := Nat.xor_div_two
  have h2 : (a ^^^ b) % 2 = (a % 2) ^^^ (b % 2) := by
    have := @Nat.xor_mod_two_pow a b 1
    simpa using this
  rw [h1, h2]
  rcases Nat.mod_two_eq_zero_or_one a with ha | ha <;> rcases Nat.mod_two_eq_zero_or_one b with hb | hb <;> rw [ha, hb]
  · simp
  · simp [Nat.xor_assoc]
  · simp only [Nat.mul_one, Nat.mul_zero, Nat.xor_zero]
    rw [Nat.xor_assoc, Nat.xor_comm (b / 2), ← Nat.xor_assoc]
  · have h3 : a / 2 ^^^ 3988292384 ^^^ (b / 2 ^^^ 3988292384) = a / 2 ^^^ b / 2 := by
      rw [Nat.xor_assoc, Nat.xor_comm (b / 2), ← Nat.xor_assoc 3988292384, Nat.xor_self, Nat.zero_xor]
    simp [h3]
theorem stepsN_xor : ∀ (k a b : Nat), stepsN k (a ^^^ b) = stepsN k a ^^^ stepsN k b
  | 0, _, _ => rfl
  | k + 1, a, b => by simp only [stepsN]; rw [stepsN_xor k, stepN_xor]
theorem stepN_even (a : Nat) : stepN (2 * a) = a := by
  unfold stepN
  rw [Nat.mul_mod_right, Nat.mul_zero, Nat.xor_zero]
  omega
theorem stepsN_shift : ∀ (k a : Nat), stepsN k (2 ^ k * a) = a
  | 0, a => by simp [stepsN]
  | k + 1, a => by
    rw [stepsN, show 2 ^ (k + 1) * a = 2 ^ k * (2 * a) by rw [Nat.pow_succ, Nat.mul_assoc], stepsN_shift k, stepN_even]
/-- the table's step is eight bits' steps -/
theorem table_step (c x : Nat) (hx : x < 256) : (c / 256) ^^^ stepsN 8 ((c % 256) ^^^ x) = stepsN 8 (c ^^^ x) := by
  have h1 : c = (2 ^ 8 * (c / 256)) ^^^ (c % 256) := by
    have h := Nat.div_add_mod c 256
    have e : (2 ^ 8 * (c / 256)) ^^^ (c % 256) = 2 ^ 8 * (c / 256) + c % 256 := by
      apply Nat.eq_of_testBit_eq
      intro i
      rw [Nat.testBit_xor]
      by_cases hi : i < 8
      · rw [Nat.testBit_two_pow_mul, Nat.testBit_two_pow_mul_add _ (Nat.mod_lt _ (by decide) : c % 256 < 2 ^ 8)]
        simp [hi, Nat.not_le.2 hi]
      · have hb : c % 256 < 2 ^ i := Nat.lt_of_lt_of_le (Nat.mod_lt c (by decide)) (show 2 ^ 8 ≤ 2 ^ i from Nat.pow_le_pow_right (by decide) (by omega))
        have h0 : (c % 256).testBit i = false := Nat.testBit_lt_two_pow hb
        rw [Nat.testBit_two_pow_mul, Nat.testBit_two_pow_mul_add _ (Nat.mod_lt _ (by decide) : c % 256 < 2 ^ 8), h0]
        simp [hi, Nat.le_of_not_lt hi]
    omega
  have h2 : stepsN 8 (c ^^^ x) = stepsN 8 ((2 ^ 8 * (c / 256)) ^^^ ((c % 256) ^^^ x)) := by
    rw [← Nat.xor_assoc, ← h1]
  rw [h2, stepsN_xor 8 (2 ^ 8 * (c / 256)), stepsN_shift]
theorem rc_eq : ∀ (l : List UInt8) (c : Nat), crcGo c l = rcGo c l
  | [], _ => rfl
  | x :: r, c => by
    rw [crcGo, rcGo, table_step c x.toNat x.toNat_lt, rc_eq r]
theorem and1_int (x : Nat) (h : x < 4294967296) : bits BinOp.and IntKind.u32 (x : Int) 1 = ((x % 2 : Nat) : Int) := by
  have := u32_and_nat x 1 h (by decide)
  rw [nat_mask1] at this
  exact this
theorem odd_int (x : Nat) (h : x < 4294967296) : bits BinOp.xor IntKind.u32 ((x : Int) / 2) 3988292384 = ((x / 2 ^^^ 3988292384 : Nat) : Int) := by
  rw [show ((x : Int) / 2) = ((x / 2 : Nat) : Int) by omega]
  exact u32_xor_nat _ 3988292384 (by omega) (by decide)

end Go.Proofs.Ytdbnaflaobncgaa
