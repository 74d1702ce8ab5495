/-
  Walks of package pack, further: a reader takes a number, a text, a yes; its end.
-/
import Derived.Test.YtnionfddejaalaaPack3
namespace Go.Proofs.Ytnionfddejaalaa
set_option linter.unusedVariables false
set_option linter.unusedSimpArgs false
open Go.RowKit

/-- a number that stands there, from its i-th byte on, v having come -/
def rdGo (most : Nat) : Nat → Nat → List UInt8 → Option (Nat × List UInt8)
  | _, _, [] => none
  | i, v, c :: r =>
    if i = 9 ∧ 1 < c.toNat then none
    else if 128 ≤ c.toNat then rdGo most (i + 1) (v + c.toNat % 128 * 2 ^ (7 * i)) r
    else if (c.toNat = 0 ∧ 0 < i) ∨ most < v + c.toNat % 128 * 2 ^ (7 * i) then none
    else some (v + c.toNat % 128 * 2 ^ (7 * i), r)
/-- what a reader's Num answers: the number, what is left, whether it is wrong -/
def rdNum (l : List UInt8) (bad : Bool) (most : Nat) : Nat × List UInt8 × Bool :=
  if bad then (0, l, true) else match rdGo most 0 0 l with | some (v, r) => (v, r, false) | none => (0, l, true)

theorem IntKind.wrap_u64_nat (n : Nat) (h : n < 18446744073709551616) : IntKind.u64.wrap (n : Int) = (n : Int) := by
  rw [show IntKind.u64.wrap (n : Int) = (n : Int) % 18446744073709551616 by simp [IntKind.wrap, IntKind.bits, IntKind.signed]]
  omega
theorem and_all : ∀ n : Fin 256, bits BinOp.and IntKind.u8 (n.val : Int) 127 = ((n.val % 128 : Nat) : Int) := by decide +kernel
theorem and127 (c : UInt8) : bits BinOp.and IntKind.u8 (c.toNat : Int) 127 = ((c.toNat % 128 : Nat) : Int) := and_all ⟨c.toNat, c.toNat_lt⟩

theorem sl_drop {α : Type} {f : α → Value} {w : World} {b o : Nat} {l : List α} (h : Sl f w (some ⟨b, o, none⟩) l) (k : Nat) : Sl f w (some ⟨b, o + k, none⟩) (l.drop k) := fun j v hj => by
  rw [List.getElem?_drop] at hj
  obtain ⟨b', o', e, hc⟩ := h (k + j) v hj
  injection e with e
  injection e with e1 e2
  subst e1 e2
  exact ⟨b, o + k, rfl, by rw [Nat.add_assoc]; exact hc⟩
theorem or_lt (k v m : Nat) (hm : m < 128) (hv : v < 2 ^ (7 * k)) : v + m * 2 ^ (7 * k) < 2 ^ (7 * (k + 1)) := by
  have e : 2 ^ (7 * (k + 1)) = 128 * 2 ^ (7 * k) := by rw [Nat.mul_add, Nat.pow_add]; omega
  have h : (m + 1) * 2 ^ (7 * k) ≤ 128 * 2 ^ (7 * k) := Nat.mul_le_mul_right _ (by omega)
  rw [e]
  rw [Nat.add_mul] at h
  omega
theorem or_step (k v m : Nat) (hk : k ≤ 9) (hm : m < 128) (hv : v < 2 ^ (7 * k)) (h9 : k = 9 → m ≤ 1) :
    bits BinOp.or IntKind.u64 (v : Int) (IntKind.u64.wrap ((m : Int) * 2 ^ (7 * k))) = ((v + m * 2 ^ (7 * k) : Nat) : Int) := by
  have hle : m * 2 ^ (7 * k) < 18446744073709551616 ∧ v < 18446744073709551616 := by
    by_cases h : k = 9
    · subst h
      have := h9 rfl
      have e : (2 : Nat) ^ (7 * 9) = 9223372036854775808 := by decide
      rw [e] at hv ⊢
      omega
    · have h2 : (2 : Nat) ^ (7 * k) ≤ 2 ^ 56 := Nat.pow_le_pow_right (by decide) (by omega)
      have e : (2 : Nat) ^ 56 = 72057594037927936 := by decide
      rw [e] at h2
      have h3 : m * 2 ^ (7 * k) ≤ 127 * 72057594037927936 := Nat.mul_le_mul (by omega) h2
      omega
  have e1 : ((m : Int) * 2 ^ (7 * k)) = ((m * 2 ^ (7 * k) : Nat) : Int) := by rw [Int.natCast_mul, Int.natCast_pow]; rfl
  rw [e1, IntKind.wrap_u64_nat _ hle.1, u64_or_nat v _ hle.2 hle.1, Nat.or_comm, nat_join (7 * k) (m * 2 ^ (7 * k)) v (Nat.mul_mod_left _ _) hv, Nat.add_comm]

end Go.Proofs.Ytnionfddejaalaa
