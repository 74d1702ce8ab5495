/-
  The one form of a number.
-/
import Derived.Test.YtnionfddejaalaaNumLaw
namespace Go.Proofs.Ytnionfddejaalaa
set_option linter.unusedVariables false
set_option linter.unusedSimpArgs false
open Go.RowKit

def valL : List UInt8 → Nat
  | [] => 0
  | x :: r => x.toNat % 128 + 128 * valL r
theorem valL_snoc : ∀ (d : List UInt8) (c : UInt8), valL (d ++ [c]) = valL d + c.toNat % 128 * 2 ^ (7 * d.length)
  | [], c => by simp [valL]
  | x :: r, c => by
    rw [List.cons_append, valL, valL, valL_snoc r c, List.length_cons, pow_next, Nat.mul_add, ← Nat.mul_assoc, ← Nat.mul_assoc, Nat.mul_comm 128 (c.toNat % 128), Nat.add_assoc]
theorem valL_pos : ∀ (d : List UInt8) (c : UInt8), c.toNat % 128 ≠ 0 → 0 < valL (d ++ [c])
  | [], c, h => by simp [valL]; omega
  | x :: r, c, h => by
    rw [List.cons_append, valL]
    have := valL_pos r c h
    omega
theorem numF_val : ∀ (d : List UInt8) (c : UInt8) (f : Nat), (∀ x ∈ d, 128 ≤ x.toNat) → c.toNat < 128 → (d = [] ∨ c.toNat ≠ 0) → d.length ≤ f → numF (f + 1) (valL (d ++ [c])) = d ++ [c]
  | [], c, f, _, hc, _, _ => by
    have e : valL ([] ++ [c]) = c.toNat := by simp [valL]; omega
    rw [e, numF, if_pos hc, UInt8.ofNat_toNat]
    rfl
  | x :: r, c, f, hd, hc, h0, hf => by
    have hc0 : c.toNat ≠ 0 := by
      rcases h0 with h | h
      · cases h
      · exact h
    have hx := hd x (List.mem_cons_self ..)
    have hp := valL_pos r c (by omega)
    have hxl := x.toNat_lt
    match f, hf with
    | f + 1, hf =>
      have ih := numF_val r c f (fun y hy => hd y (List.mem_cons_of_mem _ hy)) hc (.inr hc0) (by simpa using hf)
      rw [List.cons_append, valL, numF, if_neg (by omega)]
      rw [show (x.toNat % 128 + 128 * valL (r ++ [c])) / 128 = valL (r ++ [c]) by omega, ih]
      rw [show (x.toNat % 128 + 128 * valL (r ++ [c])) % 128 + 128 = x.toNat by omega, UInt8.ofNat_toNat]
theorem num_canon (d : List UInt8) (c : UInt8) (hd : ∀ x ∈ d, 128 ≤ x.toNat) (hc : c.toNat < 128) (hl : d.length ≤ 9) (hv : valL (d ++ [c]) < 18446744073709551616) :
    numB (valL (d ++ [c])) = d ++ [c] ↔ ¬ (c.toNat = 0 ∧ 0 < d.length) := by
  constructor
  · rintro h ⟨h1, h2⟩
    have hc0 : c = 0 := UInt8.toNat_inj.1 h1
    subst hc0
    have e := rdGo_numB 18446744073709551615 (valL (d ++ [0])) [] hv
    rw [List.append_nil, h, rdGo_tail _ d 0 0 hd (by omega), if_neg (by omega)] at e
    cases e
  · intro h
    exact numF_val d c 9 hd hc (by
      by_cases h0 : d = []
      · exact .inl h0
      · exact .inr (fun e => h ⟨e, List.length_pos_iff.2 h0⟩)) hl
end Go.Proofs.Ytnionfddejaalaa
