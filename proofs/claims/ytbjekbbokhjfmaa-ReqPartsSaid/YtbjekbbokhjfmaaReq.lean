/-
  Walks of package req: which requests and replies are alike, their keys, which are newer.
-/
import Derived.Test.YtbjekbbokhjfmaaMayReq
import Derived.Test.YtbjekbbokhjfmaaAlike
import Derived.Laws.StructEq
namespace Go.Proofs.Ytbjekbbokhjfmaa
set_option linter.unusedVariables false
set_option linter.unusedSimpArgs false
open Go.RowKit

/-- a request as a value -/
abbrev reqV (c s k i m : Int) (d : ByteArray) : Value := .agg #[.int .i64 c, .int .i64 s, .int .i64 k, .int .i64 i, .int .i64 m, .string d]
/-- a reply as a value -/
abbrev repV (c v : Int) (d : ByteArray) (A : Option Addr) (n cap : Nat) : Value := .agg #[.int .i64 c, .int .i64 v, .string d, .slice A n cap]

theorem key_any (c s k i m : Int) (d : ByteArray) (w : World) (hd : d.size ≤ maxLen) :
    Calls Try.prog 24 #[reqV c s k i m d] w fun e w' => e = .returned (.int .i64 (if mayReqB c s k i m d.size then i else -1)) ∧ Below w.heap.size w w' := by
  have HM : Hid (∀ W, Calls Try.prog 46 #[.agg #[.int .i64 c, .int .i64 s, .int .i64 k, .int .i64 i, .int .i64 m, .string d]] W fun e w' => e = .returned (.bool (mayReqB c s k i m d.size)) ∧ Below W.heap.size W w') := fun W => mayReq_any c s k i m d W hd
  have HB : Hid (∀ o, Below w.heap.size w (w.alloc o)) := fun o => (Below.refl _ _).alloc (Nat.le_refl _) _
  clear hd
  generalize mayReqB c s k i m d.size = b at *
  refine hide_post fun D hD => ?_
  have hc : ∀ (o : Obj) (w' : World), Below (w.alloc o).heap.size (w.alloc o) w' → w'.cell? ⟨w.heap.size, 3, none⟩ = (w.alloc o).cell? ⟨w.heap.size, 3, none⟩ := fun o w' h => h.cell (p := ⟨w.heap.size, 3, none⟩) (by simp)
  have HC := Lib.hid hc
  clear hc
  cases b
  all_goals
    go_enter Try.func24, Try.ntmps24
    go_wp2_with (go_at_call 46; (with_reducible refine (HM.out _).mono ?_); rintro e w' ⟨rfl, h⟩; have hc3 := HC.out _ w' h; (rw [World.cell?_alloc_mark] at hc3); have H := Lib.hid h; clear h)
    try go_ret
    exact hD.out _ _ ⟨rfl, Below.step (HB.out _) H.out⟩

theorem newer_any (c s k i m : Int) (d : ByteArray) (n : Int) (w : World) (hd : d.size ≤ maxLen) :
    Calls Try.prog 25 #[reqV c s k i m d, .int .i64 n] w fun e w' => e = .returned (.bool (mayReqB c s k i m d.size && decide (n < s))) ∧ Below w.heap.size w w' := by
  have HM : Hid (∀ W, Calls Try.prog 46 #[.agg #[.int .i64 c, .int .i64 s, .int .i64 k, .int .i64 i, .int .i64 m, .string d]] W fun e w' => e = .returned (.bool (mayReqB c s k i m d.size)) ∧ Below W.heap.size W w') := fun W => mayReq_any c s k i m d W hd
  have HB : Hid (∀ o, Below w.heap.size w (w.alloc o)) := fun o => (Below.refl _ _).alloc (Nat.le_refl _) _
  clear hd
  generalize mayReqB c s k i m d.size = b at *
  refine hide_post fun D hD => ?_
  have HC : Hid (∀ (o : Obj) (w' : World), Below (w.alloc o).heap.size (w.alloc o) w' → w'.cell? ⟨w.heap.size, 1, none⟩ = (w.alloc o).cell? ⟨w.heap.size, 1, none⟩) := fun o w' h => h.cell (p := ⟨w.heap.size, 1, none⟩) (by simp)
  cases b
  all_goals
    go_enter Try.func25, Try.ntmps25
    go_wp2_with (go_at_call 46; (with_reducible refine (HM.out _).mono ?_); rintro e w' ⟨rfl, h⟩; have hc3 := HC.out _ w' h; (rw [World.cell?_alloc_mark] at hc3); have H := Lib.hid h; clear h)
    try go_ret
    exact hD.out _ _ ⟨ret_bool (by simp), Below.step (HB.out _) H.out⟩

theorem same_any (c s k i m c' s' k' i' m' : Int) (d d' : ByteArray) (w : World) :
    Calls Try.prog 21 #[reqV c s k i m d, reqV c' s' k' i' m' d'] w fun e w' => e = .returned (.bool (decide (c = c' ∧ s = s' ∧ k = k' ∧ i = i' ∧ m = m' ∧ d = d'))) ∧ Below w.heap.size w w' := by
  generalize hr : decide (c = c' ∧ s = s' ∧ k = k' ∧ i = i' ∧ m = m' ∧ d = d') = r
  have HR := Lib.hid hr
  clear hr
  have hcs : c ≠ c' ∨ (c = c' ∧ s ≠ s') ∨ (c = c' ∧ s = s' ∧ k ≠ k') ∨ (c = c' ∧ s = s' ∧ k = k' ∧ i ≠ i') ∨ (c = c' ∧ s = s' ∧ k = k' ∧ i = i' ∧ m ≠ m') ∨ (c = c' ∧ s = s' ∧ k = k' ∧ i = i' ∧ m = m') := by omega
  refine hide_post fun D hD => ?_
  have hl : d.toList = d'.toList ↔ d = d' := ⟨fun h => Go.WideShapes.bytes_inj (by rwa [ByteArray.toList_eq, ByteArray.toList_eq] at h), fun h => by rw [h]⟩
  have HD : Hid (∀ o o' b, b = r → D (.returned (.bool b)) ((w.alloc o).alloc o')) := fun o o' b h => hD.out _ _ ⟨ret_bool h, ((Below.refl _ _).alloc (Nat.le_refl _) _).alloc (by simp) _⟩
  clear hD
  rcases hcs with h1 | ⟨rfl, h1⟩ | ⟨rfl, rfl, h1⟩ | ⟨rfl, rfl, rfl, h1⟩ | ⟨rfl, rfl, rfl, rfl, h1⟩ | ⟨rfl, rfl, rfl, rfl, rfl⟩
  case inr.inr.inr.inr.inr =>
    by_cases hd : d = d'
    · have hE : r = true := by rw [← HR.out]; exact decide_eq_true (by simp [hd])
      have HE := Lib.hid hE
      clear hE hl
      subst hd
      go_enter Try.func21, Try.ntmps21
      go_wp2
      try go_ret
      exact HD.out _ _ _ HE.out.symm
    · have hE : r = false := by rw [← HR.out]; exact decide_eq_false (by simp [hd])
      have hl2 : ¬ d.toList = d'.toList := fun h => hd (hl.1 h)
      have HE := Lib.hid hE
      clear hE hl
      go_enter Try.func21, Try.ntmps21
      go_wp2
      try go_ret
      exact HD.out _ _ _ HE.out.symm
  all_goals
    have hE : r = false := by rw [← HR.out]; exact decide_eq_false (by simp [h1])
    have HE := Lib.hid hE
    clear hE hl
    go_enter Try.func21, Try.ntmps21
    go_wp2
    try go_ret
    exact HD.out _ _ _ HE.out.symm
end Go.Proofs.Ytbjekbbokhjfmaa
