/-
  The walk of the document's own MayReq.
-/
import Derived.Test.YtnionfddejaalaaMayReq
namespace Go.Proofs.Ytnionfddejaalaa
set_option linter.unusedVariables false
set_option linter.unusedSimpArgs false
open Go.RowKit

set_option maxHeartbeats 4000000 in
theorem refMayReq_any (c s k i m : Int) (d : ByteArray) (w : World) (hd : d.size ≤ maxLen) :
    Calls Try.prog 37 #[.agg #[.int .i64 c, .int .i64 s, .int .i64 k, .int .i64 i, .int .i64 m, .string d]] w fun e w' => e = .returned (.bool (mayReqB c s k i m d.size)) ∧ Below w.heap.size w w' := by
  generalize hr : mayReqB c s k i m d.size = r
  have HR := Lib.hid hr
  clear hr
  unfold mayReqB at HR
  have HB : Hid (∀ o, Below w.heap.size w (w.alloc o)) := fun o => (Below.refl _ _).alloc (Nat.le_refl _) _
  have hcs : (c < 0) ∨ (¬ c < 0 ∧ 4 ≤ c) ∨ (¬ c < 0 ∧ ¬ 4 ≤ c ∧ s < 1) ∨ (¬ c < 0 ∧ ¬ 4 ≤ c ∧ ¬ s < 1 ∧ 1073741824 < s) ∨ (¬ c < 0 ∧ ¬ 4 ≤ c ∧ ¬ s < 1 ∧ ¬ 1073741824 < s ∧ k < 1) ∨ (¬ c < 0 ∧ ¬ 4 ≤ c ∧ ¬ s < 1 ∧ ¬ 1073741824 < s ∧ ¬ k < 1 ∧ 6 < k) ∨ (¬ c < 0 ∧ ¬ 4 ≤ c ∧ ¬ s < 1 ∧ ¬ 1073741824 < s ∧ ¬ k < 1 ∧ ¬ 6 < k ∧ i < 0) ∨ (¬ c < 0 ∧ ¬ 4 ≤ c ∧ ¬ s < 1 ∧ ¬ 1073741824 < s ∧ ¬ k < 1 ∧ ¬ 6 < k ∧ ¬ i < 0 ∧ 31 < i) ∨ (¬ c < 0 ∧ ¬ 4 ≤ c ∧ ¬ s < 1 ∧ ¬ 1073741824 < s ∧ ¬ k < 1 ∧ ¬ 6 < k ∧ ¬ i < 0 ∧ ¬ 31 < i ∧ 64 < (d.size : Int)) ∨ (¬ c < 0 ∧ ¬ 4 ≤ c ∧ ¬ s < 1 ∧ ¬ 1073741824 < s ∧ ¬ k < 1 ∧ ¬ 6 < k ∧ ¬ i < 0 ∧ ¬ 31 < i ∧ ¬ 64 < (d.size : Int) ∧ m < 0) ∨ (¬ c < 0 ∧ ¬ 4 ≤ c ∧ ¬ s < 1 ∧ ¬ 1073741824 < s ∧ ¬ k < 1 ∧ ¬ 6 < k ∧ ¬ i < 0 ∧ ¬ 31 < i ∧ ¬ 64 < (d.size : Int) ∧ ¬ m < 0 ∧ 100 < m) ∨ (¬ c < 0 ∧ ¬ 4 ≤ c ∧ ¬ s < 1 ∧ ¬ 1073741824 < s ∧ ¬ k < 1 ∧ ¬ 6 < k ∧ ¬ i < 0 ∧ ¬ 31 < i ∧ ¬ 64 < (d.size : Int) ∧ ¬ m < 0 ∧ ¬ 100 < m) := by
    by_cases h0 : c < 0
    case pos => exact Or.inl h0
    by_cases h1 : 4 ≤ c
    case pos => exact Or.inr <| Or.inl ⟨h0, h1⟩
    by_cases h2 : s < 1
    case pos => exact Or.inr <| Or.inr <| Or.inl ⟨h0, h1, h2⟩
    by_cases h3 : 1073741824 < s
    case pos => exact Or.inr <| Or.inr <| Or.inr <| Or.inl ⟨h0, h1, h2, h3⟩
    by_cases h4 : k < 1
    case pos => exact Or.inr <| Or.inr <| Or.inr <| Or.inr <| Or.inl ⟨h0, h1, h2, h3, h4⟩
    by_cases h5 : 6 < k
    case pos => exact Or.inr <| Or.inr <| Or.inr <| Or.inr <| Or.inr <| Or.inl ⟨h0, h1, h2, h3, h4, h5⟩
    by_cases h6 : i < 0
    case pos => exact Or.inr <| Or.inr <| Or.inr <| Or.inr <| Or.inr <| Or.inr <| Or.inl ⟨h0, h1, h2, h3, h4, h5, h6⟩
    by_cases h7 : 31 < i
    case pos => exact Or.inr <| Or.inr <| Or.inr <| Or.inr <| Or.inr <| Or.inr <| Or.inr <| Or.inl ⟨h0, h1, h2, h3, h4, h5, h6, h7⟩
    by_cases h8 : 64 < (d.size : Int)
    case pos => exact Or.inr <| Or.inr <| Or.inr <| Or.inr <| Or.inr <| Or.inr <| Or.inr <| Or.inr <| Or.inl ⟨h0, h1, h2, h3, h4, h5, h6, h7, h8⟩
    by_cases h9 : m < 0
    case pos => exact Or.inr <| Or.inr <| Or.inr <| Or.inr <| Or.inr <| Or.inr <| Or.inr <| Or.inr <| Or.inr <| Or.inl ⟨h0, h1, h2, h3, h4, h5, h6, h7, h8, h9⟩
    by_cases h10 : 100 < m
    case pos => exact Or.inr <| Or.inr <| Or.inr <| Or.inr <| Or.inr <| Or.inr <| Or.inr <| Or.inr <| Or.inr <| Or.inr <| Or.inl ⟨h0, h1, h2, h3, h4, h5, h6, h7, h8, h9, h10⟩
    exact Or.inr <| Or.inr <| Or.inr <| Or.inr <| Or.inr <| Or.inr <| Or.inr <| Or.inr <| Or.inr <| Or.inr <| Or.inr ⟨h0, h1, h2, h3, h4, h5, h6, h7, h8, h9, h10⟩
  clear hd
  rcases hcs with h0 | ⟨h0, h1⟩ | ⟨h0, h1, h2⟩ | ⟨h0, h1, h2, h3⟩ | ⟨h0, h1, h2, h3, h4⟩ | ⟨h0, h1, h2, h3, h4, h5⟩ | ⟨h0, h1, h2, h3, h4, h5, h6⟩ | ⟨h0, h1, h2, h3, h4, h5, h6, h7⟩ | ⟨h0, h1, h2, h3, h4, h5, h6, h7, h8⟩ | ⟨h0, h1, h2, h3, h4, h5, h6, h7, h8, h9⟩ | ⟨h0, h1, h2, h3, h4, h5, h6, h7, h8, h9, h10⟩ | ⟨h0, h1, h2, h3, h4, h5, h6, h7, h8, h9, h10⟩
  case inr.inr.inr.inr.inr.inr.inr.inr.inr.inr.inr =>
    have hk : k = 1 ∨ k = 2 ∨ k = 3 ∨ k = 4 ∨ k = 5 ∨ k = 6 := by omega
    by_cases hz : d.size = 0
    all_goals
      have he := isEmpty_size d
      (first | rw [decide_eq_true hz] at he | rw [decide_eq_false hz] at he)
      rcases hk with rfl | rfl | rfl | rfl | rfl | rfl
      all_goals
        rcases Classical.em (m = 0) with rfl | hm
        all_goals
          go_enter Try.func37, Try.ntmps37
          go_wp2
          go_ret
          exact ⟨ret_bool (by rw [← HR.out]; (try rw [isEmpty_size]); generalize d.size = n at *; rw [Bool.eq_iff_iff]; simp <;> omega), HB.out _⟩
  all_goals
    have HF : Hid (r = false) := by
      show r = false
      rw [← HR.out]
      exact decide_eq_false (by omega)
    go_enter Try.func37, Try.ntmps37
    go_wp2
    go_ret
    exact ⟨ret_bool HF.out.symm, HB.out _⟩
end Go.Proofs.Ytnionfddejaalaa
