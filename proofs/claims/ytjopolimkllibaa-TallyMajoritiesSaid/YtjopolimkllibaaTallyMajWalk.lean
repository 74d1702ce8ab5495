/-
  The walk of the law TallyMajorities.
-/
import Derived.Test.YtjopolimkllibaaTold14
namespace Go.Proofs.Ytjopolimkllibaa
set_option linter.unusedVariables false
set_option linter.unusedSimpArgs false
open Go.RowKit Go.ChangeShapes Go.WideShapes

theorem and_one (z : Int) : 0 ≤ bits BinOp.and IntKind.i64 z 1 ∧ bits BinOp.and IntKind.i64 z 1 ≤ 1 := by
  have h : bits BinOp.and IntKind.i64 z 1 = IntKind.i64.wrap ((BitVec.ofInt 64 z &&& BitVec.ofInt 64 1).toNat : Int) := rfl
  have h1 : (BitVec.ofInt 64 z &&& BitVec.ofInt 64 1).toNat ≤ 1 := by
    rw [BitVec.toNat_and]
    exact Nat.and_le_right
  rw [h, IntKind.wrap_i64]
  omega

theorem maj_step (p q b i x y : Int) (hx : 0 ≤ x ∧ x ≤ 1) (hy : 0 ≤ y ∧ y ≤ 1) (h : p + q - i ≤ b) : p + x + (q + y) - (i + 1) ≤ b + x * y ∧ 0 ≤ x * y ∧ x * y ≤ 1 := by
  have hx' : x = 0 ∨ x = 1 := by omega
  rcases hx' with rfl | rfl
  · simp; omega
  · simp; omega

set_option maxHeartbeats 4000000 in
theorem walk_tallyMajorities (n a b : Int) (w : World) : Calls Try.prog 12 #[.int .i64 n, .int .i64 a, .int .i64 b] w fun e w' => e = .returned (.bool true) ∧ Below w.heap.size w w' := by
  refine hide_post fun D hD => ?_
  obtain ⟨m0, m1⟩ := umod_bd n 5 (by omega) (by omega)
  have HT : Hid (∀ W, Calls Try.prog 49 #[] W fun e w' => e = .returned (.bool true) ∧ Ext W w') := told_tally
  go_enter Try.func12, Try.ntmps12
  go_wp2
  generalize wrap64 ((IntKind.u64.wrap n).tmod 5) = k0 at *
  obtain ⟨k, hk⟩ : ∃ k : Int, k = 1 + k0 := ⟨_, rfl⟩
  rw [← hk]
  have hk1 : 1 ≤ k := by omega
  have hk5 : k ≤ 5 := by omega
  clear hk m0 m1
  go_loop [11, 8, 9, 10] (fun i p q c => ∃ (j : Nat) (P Q C : Int), (j : Int) ≤ k ∧ i = .int .i64 j ∧ p = .int .i64 P ∧ q = .int .i64 Q ∧ c = .int .i64 C ∧ 0 ≤ P ∧ P ≤ j ∧ 0 ≤ Q ∧ Q ≤ j ∧ 0 ≤ C ∧ C ≤ j ∧ P + Q - j ≤ C) (fun i _ _ _ => 10 - (intOf i).toNat)
  case atStart => exact ⟨0, 0, 0, 0, by omega, rfl, rfl, rfl, rfl, by omega, by omega, by omega, by omega, by omega, by omega, by omega⟩
  case round =>
    obtain ⟨j, P, Q, C, hj, rfl, rfl, rfl, rfl, h1, h2, h3, h4, h5, h6, h7⟩ := hrel
    by_cases hjk : (j : Int) < k
    · have hj0 : (0 : Int) ≤ (j : Int) := by omega
      obtain ⟨x0, x1⟩ := and_one (a / 2 ^ j)
      obtain ⟨y0, y1⟩ := and_one (b / 2 ^ j)
      obtain ⟨s1, s2, s3⟩ := maj_step P Q C j _ _ ⟨x0, x1⟩ ⟨y0, y1⟩ h7
      go_wp2
      go_round
      case rel => exact ⟨j + 1, _, _, _, by omega, by go_num, rfl, rfl, rfl, by omega, by omega, by omega, by omega, by omega, by omega, by omega⟩
      case measure => simp [intOf]; omega
    · obtain rfl : k = (j : Int) := by omega
      obtain ⟨m, hm⟩ : ∃ m, mostI (j : Int) = m := ⟨_, rfl⟩
      have HM : Hid (∀ W, Calls Try.prog 48 #[.int .i64 (j : Int)] W fun e w' => e = .returned (.int .i64 m) ∧ W = w') := fun W => by rw [← hm]; exact most_any _ W (by omega) (by omega)
      have hm2 : (j : Int) < 2 * m ∧ 2 * (m - 1) ≤ (j : Int) ∧ 0 ≤ m ∧ m ≤ 3 := by
        unfold mostI at hm
        rw [if_neg (by omega)] at hm
        omega
      obtain ⟨m1, m2, m3, m4⟩ := hm2
      have hcs : P < m ∨ (¬ P < m ∧ Q < m) ∨ (¬ P < m ∧ ¬ Q < m ∧ 0 < C) := by omega
      clear hm
      rcases hcs with q1 | ⟨q1, q2⟩ | ⟨q1, q2, q3⟩
      all_goals
        go_wp2_with (first
          | (go_at_call 48; (with_reducible refine (HM.out _).mono ?_); rintro e w1 ⟨rfl, rfl⟩)
          | (go_at_call 49; (with_reducible refine (HT.out _).mono ?_); rintro e w2 ⟨rfl, hx⟩; have X2 := Lib.hid hx; clear hx))
        try go_ret
        exact hD.out _ _ ⟨rfl, X2.out⟩

theorem law_tallyMajorities {H : Type} {enc : TypeId × Value → H} (W : World) (base : Nat) (args : Array Value) (ds : List (DataW H)) (p : List MemPlace)
    (hval : ∀ (j : Nat) t v, Try.f12.params[j]? = some t → args[j]? = some v → Value.okWide Try.prog W .any base t v)
    (hA : DataW.TrodAll enc Try.prog W 0 (fun _ => true) true Try.f12.params.toList args.toList ds p) :
    Calls Try.prog 12 args W fun e W' => e = .returned (.bool true) ∧ Below W.heap.size W W' := by
  rw [Try.params12] at hA hval
  obtain ⟨v0, vs0, d0, ds0, p0, q0, hargs, rfl, rfl, h0, r0⟩ := trodAll_cons hA
  obtain ⟨v1, vs1, d1, ds1, p1, q1, rfl, rfl, rfl, h1, r1⟩ := trodAll_cons r0
  obtain ⟨v2, vs2, d2, ds2, p2, q2, rfl, rfl, rfl, h2, r2⟩ := trodAll_cons r1
  obtain ⟨rfl, rfl, rfl⟩ := trodAll_nil r2
  obtain rfl : args = #[v0, v1, v2] := by cases args; simp_all
  obtain ⟨a0, rfl, rfl, rfl, w0⟩ := open_int Try.underlying3 (hval 0 3 v0 rfl rfl) h0
  obtain ⟨a1, rfl, rfl, rfl, w1⟩ := open_int Try.underlying3 (hval 1 3 v1 rfl rfl) h1
  obtain ⟨a2, rfl, rfl, rfl, w2⟩ := open_int Try.underlying3 (hval 2 3 v2 rfl rfl) h2
  exact walk_tallyMajorities a0 a1 a2 W
end Go.Proofs.Ytjopolimkllibaa
