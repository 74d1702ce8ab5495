/-
  Walks of item.MayReq and of the reference's MayReq: which requests may be.
-/
import Derived.Test.YtnionfddejaalaaBase
namespace Go.Proofs.Ytnionfddejaalaa
set_option linter.unusedVariables false
set_option linter.unusedSimpArgs false
open Go.RowKit

/-- which requests may be: n is the text's length -/
def mayReqB (c s k i m : Int) (n : Nat) : Bool :=
  decide (0 ≤ c ∧ c ≤ 3 ∧ 1 ≤ s ∧ s ≤ 1073741824 ∧ 0 ≤ i ∧ i ≤ 31 ∧ 0 ≤ m ∧ m ≤ 100 ∧
    ((k = 1 ∧ m = 0 ∧ n ≤ 64) ∨ (k = 2 ∧ n ≤ 64) ∨ (k = 3 ∧ n = 0) ∨ (k = 5 ∧ 1 ≤ m ∧ n = 0) ∨ ((k = 4 ∨ k = 6) ∧ m = 0 ∧ n = 0)))

theorem within_any (n lo hi : Int) (w : World) : Calls Try.prog 50 #[.int .i64 n, .int .i64 lo, .int .i64 hi] w fun e w' => e = .returned (.bool (decide (lo ≤ n ∧ n ≤ hi))) ∧ w = w' := by
  generalize hr : decide (lo ≤ n ∧ n ≤ hi) = r
  have HR := Lib.hid hr
  clear hr
  by_cases h1 : lo ≤ n
  · by_cases h2 : n ≤ hi
    · go_enter Try.func50, Try.ntmps50
      go_wp2
      go_ret
      exact ⟨ret_bool (by rw [← HR.out]; exact dec_true ⟨h1, h2⟩), rfl⟩
    · go_enter Try.func50, Try.ntmps50
      go_wp2
      go_ret
      exact ⟨ret_bool (by rw [← HR.out]; first | exact dec_false (by omega) | exact dec_iff (by omega)), rfl⟩
  · go_enter Try.func50, Try.ntmps50
    go_wp2
    go_ret
    exact ⟨ret_bool (by rw [← HR.out]; first | exact dec_false (by omega) | exact dec_iff (by omega)), rfl⟩

theorem bytes_of_size_zero {d : ByteArray} (h : d.size = 0) : d = ByteArray.empty := by
  apply Go.WideShapes.bytes_inj
  have : d.data.toList.length = 0 := by rw [Array.length_toList]; exact h
  rw [List.eq_nil_of_length_eq_zero this]
  rfl

theorem isEmpty_size (d : ByteArray) : d.toList.isEmpty = decide (d.size = 0) := by
  rw [ByteArray.toList_eq]
  by_cases h : d.size = 0
  · have := bytes_of_size_zero h
    subst this
    rfl
  · rw [decide_eq_false h]
    cases hl : d.data.toList with
    | nil => exact absurd (by show d.data.size = 0; rw [← Array.length_toList, hl]; rfl) h
    | cons x r => rfl

set_option maxHeartbeats 4000000 in
theorem mayReq_any (c s k i m : Int) (d : ByteArray) (w : World) (hd : d.size ≤ maxLen) :
    Calls Try.prog 35 #[.agg #[.int .i64 c, .int .i64 s, .int .i64 k, .int .i64 i, .int .i64 m, .string d]] w fun e w' => e = .returned (.bool (mayReqB c s k i m d.size)) ∧ Below w.heap.size w w' := by
  generalize hr : mayReqB c s k i m d.size = r
  have HR := Lib.hid hr
  clear hr
  unfold mayReqB at HR
  have HB : Hid (∀ o, Below w.heap.size w (w.alloc o)) := fun o => (Below.refl _ _).alloc (Nat.le_refl _) _
  have HW : Hid (∀ n lo hi W b, decide (lo ≤ n ∧ n ≤ hi) = b → Calls Try.prog 50 #[.int .i64 n, .int .i64 lo, .int .i64 hi] W fun e w' => e = .returned (.bool b) ∧ W = w') := fun n lo hi W b h => by rw [← h]; exact within_any n lo hi W
  by_cases h1 : 0 ≤ c ∧ c ≤ 3
  case neg =>
    have H1 : Hid (∀ W, Calls Try.prog 50 #[.int .i64 c, .int .i64 0, .int .i64 3] W fun e w' => e = .returned (.bool false) ∧ W = w') := fun W => HW.out c 0 3 W false (decide_eq_false h1)
    go_enter Try.func35, Try.ntmps35
    go_wp2_with (go_at_call 50; (with_reducible refine (H1.out _).mono ?_); rintro e w' ⟨rfl, rfl⟩)
    go_ret
    exact ⟨ret_bool (by rw [← HR.out]; exact dec_false (by omega)), HB.out _⟩
  have H1 : Hid (∀ W, Calls Try.prog 50 #[.int .i64 c, .int .i64 0, .int .i64 3] W fun e w' => e = .returned (.bool true) ∧ W = w') := fun W => HW.out c 0 3 W true (decide_eq_true h1)
  by_cases h2 : 1 ≤ s ∧ s ≤ 1073741824
  case neg =>
    have H2 : Hid (∀ W, Calls Try.prog 50 #[.int .i64 s, .int .i64 1, .int .i64 1073741824] W fun e w' => e = .returned (.bool false) ∧ W = w') := fun W => HW.out s 1 1073741824 W false (decide_eq_false h2)
    go_enter Try.func35, Try.ntmps35
    go_wp2_with (first | (go_at_call 50; (with_reducible refine (H1.out _).mono ?_); rintro e w' ⟨rfl, rfl⟩) | (go_at_call 50; (with_reducible refine (H2.out _).mono ?_); rintro e w' ⟨rfl, rfl⟩))
    go_ret
    exact ⟨ret_bool (by rw [← HR.out]; exact dec_false (by omega)), HB.out _⟩
  have H2 : Hid (∀ W, Calls Try.prog 50 #[.int .i64 s, .int .i64 1, .int .i64 1073741824] W fun e w' => e = .returned (.bool true) ∧ W = w') := fun W => HW.out s 1 1073741824 W true (decide_eq_true h2)
  by_cases h3 : 0 ≤ i ∧ i ≤ 31
  case neg =>
    have H3 : Hid (∀ W, Calls Try.prog 50 #[.int .i64 i, .int .i64 0, .int .i64 31] W fun e w' => e = .returned (.bool false) ∧ W = w') := fun W => HW.out i 0 31 W false (decide_eq_false h3)
    go_enter Try.func35, Try.ntmps35
    go_wp2_with (first | (go_at_call 50; (with_reducible refine (H1.out _).mono ?_); rintro e w' ⟨rfl, rfl⟩) | (go_at_call 50; (with_reducible refine (H2.out _).mono ?_); rintro e w' ⟨rfl, rfl⟩) | (go_at_call 50; (with_reducible refine (H3.out _).mono ?_); rintro e w' ⟨rfl, rfl⟩))
    go_ret
    exact ⟨ret_bool (by rw [← HR.out]; exact dec_false (by omega)), HB.out _⟩
  have H3 : Hid (∀ W, Calls Try.prog 50 #[.int .i64 i, .int .i64 0, .int .i64 31] W fun e w' => e = .returned (.bool true) ∧ W = w') := fun W => HW.out i 0 31 W true (decide_eq_true h3)
  by_cases h4 : 0 ≤ m ∧ m ≤ 100
  case neg =>
    have H4 : Hid (∀ W, Calls Try.prog 50 #[.int .i64 m, .int .i64 0, .int .i64 100] W fun e w' => e = .returned (.bool false) ∧ W = w') := fun W => HW.out m 0 100 W false (decide_eq_false h4)
    go_enter Try.func35, Try.ntmps35
    go_wp2_with (first | (go_at_call 50; (with_reducible refine (H1.out _).mono ?_); rintro e w' ⟨rfl, rfl⟩) | (go_at_call 50; (with_reducible refine (H2.out _).mono ?_); rintro e w' ⟨rfl, rfl⟩) | (go_at_call 50; (with_reducible refine (H3.out _).mono ?_); rintro e w' ⟨rfl, rfl⟩) | (go_at_call 50; (with_reducible refine (H4.out _).mono ?_); rintro e w' ⟨rfl, rfl⟩))
    go_ret
    exact ⟨ret_bool (by rw [← HR.out]; exact dec_false (by omega)), HB.out _⟩
  have H4 : Hid (∀ W, Calls Try.prog 50 #[.int .i64 m, .int .i64 0, .int .i64 100] W fun e w' => e = .returned (.bool true) ∧ W = w') := fun W => HW.out m 0 100 W true (decide_eq_true h4)
  have hk : k = 1 ∨ k = 2 ∨ k = 3 ∨ k = 4 ∨ k = 5 ∨ k = 6 ∨ (k ≠ 1 ∧ k ≠ 2 ∧ k ≠ 3 ∧ k ≠ 4 ∧ k ≠ 5 ∧ k ≠ 6) := by omega
  clear HW
  rcases hk with rfl | rfl | rfl | rfl | rfl | rfl | ⟨k1, k2, k3, k4, k5, k6⟩
  all_goals
    rcases Classical.em (m = 0) with rfl | hm
    all_goals
      go_enter Try.func35, Try.ntmps35
      go_wp2_with (first | (go_at_call 50; (with_reducible refine (H1.out _).mono ?_); rintro e w' ⟨rfl, rfl⟩) | (go_at_call 50; (with_reducible refine (H2.out _).mono ?_); rintro e w' ⟨rfl, rfl⟩) | (go_at_call 50; (with_reducible refine (H3.out _).mono ?_); rintro e w' ⟨rfl, rfl⟩) | (go_at_call 50; (with_reducible refine (H4.out _).mono ?_); rintro e w' ⟨rfl, rfl⟩))
      go_ret
      exact ⟨ret_bool (by rw [← HR.out]; (try rw [isEmpty_size]); generalize d.size = n; rw [Bool.eq_iff_iff]; simp <;> omega), HB.out _⟩
end Go.Proofs.Ytnionfddejaalaa
