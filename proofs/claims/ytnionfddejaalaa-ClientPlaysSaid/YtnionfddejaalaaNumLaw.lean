/-
  What was put as a number is read as that number; a longer form of it is none.
-/
import Derived.Test.YtnionfddejaalaaTold1
namespace Go.Proofs.Ytnionfddejaalaa
set_option linter.unusedVariables false
set_option linter.unusedSimpArgs false
open Go.RowKit

theorem pow_next (i : Nat) : 2 ^ (7 * (i + 1)) = 128 * 2 ^ (7 * i) := by rw [Nat.mul_add, Nat.pow_add]; omega
theorem div_step (n i : Nat) : n % 128 * 2 ^ (7 * i) + n / 128 * 2 ^ (7 * (i + 1)) = n * 2 ^ (7 * i) := by
  rw [pow_next, ← Nat.mul_assoc, ← Nat.add_mul]
  congr 1
  omega
theorem top_le {n i : Nat} (h : n * 2 ^ (7 * i) < 18446744073709551616) (hi : i = 9) : n ≤ 1 := by
  subst hi
  have e : (2 : Nat) ^ (7 * 9) = 9223372036854775808 := by decide
  rw [e] at h
  omega
theorem rdGo_num (most : Nat) : ∀ (f n i v : Nat) (r : List UInt8), i + f = 9 → n * 2 ^ (7 * i) < 18446744073709551616 → (0 < i → 0 < n) →
    rdGo most i v (numF (f + 1) n ++ r) = if most < v + n * 2 ^ (7 * i) then none else some (v + n * 2 ^ (7 * i), r)
  | f, n, i, v, r, hf, hn, hi => by
    have ht := fun h => top_le hn h
    unfold numF
    by_cases h : n < 128
    · rw [if_pos h, List.singleton_append, rdGo]
      have e : (UInt8.ofNat n).toNat = n := by rw [UInt8.toNat_ofNat']; omega
      rw [e, if_neg (by intro h2; have := ht h2.1; omega), if_neg (by omega), Nat.mod_eq_of_lt h]
      by_cases hm : most < v + n * 2 ^ (7 * i)
      · rw [if_pos (.inr hm), if_pos hm]
      · rw [if_neg (by rintro (h2 | h2); · have := hi h2.2; omega
                       · exact hm h2), if_neg hm]
    · rw [if_neg h, List.cons_append, rdGo]
      have e : (UInt8.ofNat (n % 128 + 128)).toNat = n % 128 + 128 := by rw [UInt8.toNat_ofNat']; omega
      rw [e, if_neg (by intro h2; have := ht h2.1; omega), if_pos (by omega), show (n % 128 + 128) % 128 = n % 128 by omega]
      match f, hf with
      | 0, hf => exact absurd (ht (by omega)) (by omega)
      | f + 1, hf =>
        have hd := div_step n i
        rw [rdGo_num most f (n / 128) (i + 1) (v + n % 128 * 2 ^ (7 * i)) r (by omega) (by omega) (fun _ => by omega), Nat.add_assoc v, hd]
theorem rdGo_numB (most n : Nat) (r : List UInt8) (hn : n < 18446744073709551616) : rdGo most 0 0 (numB n ++ r) = if most < n then none else some (n, r) := by
  have := rdGo_num most 9 n 0 0 r rfl (by simpa using hn) (fun h => absurd h (by decide))
  simpa [numB] using this
theorem rdNum_numB (most n : Nat) (r : List UInt8) (hn : n < 18446744073709551616) : rdNum (numB n ++ r) false most = if most < n then (0, numB n ++ r, true) else (n, r, false) := by
  unfold rdNum
  rw [if_neg (by decide), rdGo_numB most n r hn]
  by_cases h : most < n
  · rw [if_pos h, if_pos h]
  · rw [if_neg h, if_neg h]

/-- a form with a nought too many, or with too many bytes, is none -/
theorem rdGo_tail (most : Nat) : ∀ (l : List UInt8) (i v : Nat), (∀ c ∈ l, 128 ≤ c.toNat) → 0 < i + l.length → rdGo most i v (l ++ [0]) = none
  | [], i, v, _, h => by
    rw [List.nil_append, rdGo]
    simp at h
    simp
    omega
  | c :: r, i, v, hc, h => by
    rw [List.cons_append, rdGo]
    split
    · rfl
    · rw [if_pos (hc c (List.mem_cons_self ..))]
      exact rdGo_tail most r (i + 1) _ (fun x hx => hc x (List.mem_cons_of_mem _ hx)) (by omega)
theorem numF_ne : ∀ (f n : Nat), numF (f + 1) n ≠ []
  | f, n => by unfold numF; split <;> simp
theorem numB_ne (n : Nat) : numB n ≠ [] := numF_ne 9 n
/-- all its bytes but the last are big -/
theorem numF_big : ∀ (f n : Nat), ∃ d c, numF (f + 1) n = d ++ [c] ∧ (∀ x ∈ d, 128 ≤ x.toNat)
  | f, n => by
    unfold numF
    by_cases h : n < 128
    · rw [if_pos h]
      exact ⟨[], UInt8.ofNat n, rfl, by simp⟩
    · rw [if_neg h]
      match f with
      | 0 => exact ⟨[], UInt8.ofNat (n % 128 + 128), by simp [numF], by simp⟩
      | f + 1 =>
        obtain ⟨d, c, e, hd⟩ := numF_big f (n / 128)
        refine ⟨UInt8.ofNat (n % 128 + 128) :: d, c, by rw [e]; rfl, ?_⟩
        intro x hx
        rcases List.mem_cons.1 hx with rfl | hx
        · rw [UInt8.toNat_ofNat']; omega
        · exact hd x hx
/-- what reads as none leaves the reader wrong -/
theorem rdNum_none {l : List UInt8} {most : Nat} (h : rdGo most 0 0 l = none) : rdNum l false most = (0, l, true) := by
  unfold rdNum
  rw [if_neg (by decide), h]
theorem rdNum_bad (l : List UInt8) (most : Nat) : rdNum l true most = (0, l, true) := by unfold rdNum; rw [if_pos rfl]
theorem rdText_bad (l : List UInt8) (most : Nat) : rdText l true most = ([], l, true) := by unfold rdText; rw [rdNum_bad]; rfl
end Go.Proofs.Ytnionfddejaalaa
