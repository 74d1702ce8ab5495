/-
  Two replies, compared by the program and by the document's answer.
-/
import Derived.Test.YtnionfddejaalaaReq
namespace Go.Proofs.Ytnionfddejaalaa
set_option linter.unusedVariables false
set_option linter.unusedSimpArgs false
open Go.RowKit

theorem sameReply_any (c v c' v' : Int) (d d' : ByteArray) (A B : Option Addr) (la lb : List Int) (ca cb : Nat) (w : World) (h1 : la.length ≤ 9223372036854775807) (h2 : lb.length ≤ 9223372036854775807) (hs : Sl i64 w A la) (hs2 : Sl i64 w B lb) :
    Calls Try.prog 53 #[repV c v d A la.length ca, repV c' v' d' B lb.length cb] w fun e w' => e = .returned (.bool (decide (c = c' ∧ v = v' ∧ d = d' ∧ la = lb))) ∧ Below w.heap.size w w' := by
  generalize hr : decide (c = c' ∧ v = v' ∧ d = d' ∧ la = lb) = r
  have HR := Lib.hid hr
  clear hr
  have hcs : c ≠ c' ∨ (c = c' ∧ v ≠ v') ∨ (c = c' ∧ v = v') := by omega
  refine hide_post fun D hD => ?_
  have hl : d.toList = d'.toList ↔ d = d' := ⟨fun h => Go.WideShapes.bytes_inj (by rwa [ByteArray.toList_eq, ByteArray.toList_eq] at h), fun h => by rw [h]⟩
  have hB : ∀ o o', Below w.heap.size w ((w.alloc o).alloc o') := fun o o' => ((Below.refl _ _).alloc (Nat.le_refl _) _).alloc (by simp) _
  have HC : Hid (∀ o o', Calls Try.prog 60 #[.slice A la.length ca, .slice B lb.length cb] ((w.alloc o).alloc o') fun e w' => e = .returned (.bool (decide (la = lb))) ∧ Below w.heap.size w w') := fun o o' =>
    (alike_any A B ca cb la lb _ h1 h2 (hs.stay (hB o o')) (hs2.stay (hB o o'))).mono fun _ _ ⟨he, h⟩ => ⟨he, Below.step (hB o o') h⟩
  have HD : Hid (∀ o o' b, b = r → D (.returned (.bool b)) ((w.alloc o).alloc o')) := fun o o' b h => hD.out _ _ ⟨ret_bool h, hB o o'⟩
  clear hB hs hs2
  generalize la.length = na at *
  generalize lb.length = nb at *
  rcases hcs with h1 | ⟨rfl, h1⟩ | ⟨rfl, rfl⟩
  case inr.inr =>
    by_cases hd : d = d'
    · have hE : r = decide (la = lb) := by rw [← HR.out]; exact dec_iff (by simp [hd])
      have HE := Lib.hid hE
      clear hE hl
      subst hd
      go_enter Try.func53, Try.ntmps53
      go_wp2_with (go_at_call 60; (with_reducible refine (HC.out _ _).mono ?_); rintro e w1 ⟨rfl, h⟩; have H := Lib.hid h; clear h)
      try go_ret
      exact hD.out _ _ ⟨ret_bool HE.out.symm, H.out⟩
    · have hE : r = false := by rw [← HR.out]; exact decide_eq_false (by simp [hd])
      have hl2 : ¬ d.toList = d'.toList := fun h => hd (hl.1 h)
      have HE := Lib.hid hE
      clear hE hl
      go_enter Try.func53, Try.ntmps53
      go_wp2
      try go_ret
      exact HD.out _ _ _ HE.out.symm
  all_goals
    have hE : r = false := by rw [← HR.out]; exact decide_eq_false (by simp [h1])
    have HE := Lib.hid hE
    clear hE hl
    go_enter Try.func53, Try.ntmps53
    go_wp2
    try go_ret
    exact HD.out _ _ _ HE.out.symm

theorem refReply_any (c v c' v' : Int) (d d' : ByteArray) (A B : Option Addr) (la lb : List Int) (ca cb : Nat) (w : World) (h1 : la.length ≤ 9223372036854775807) (h2 : lb.length ≤ 9223372036854775807) (hs : Sl i64 w A la) (hs2 : Sl i64 w B lb) :
    Calls Try.prog 51 #[repV c v d A la.length ca, repV c' v' d' B lb.length cb] w fun e w' => e = .returned (.bool (decide (c = c' ∧ v = v' ∧ d = d' ∧ la = lb))) ∧ Below w.heap.size w w' := by
  generalize hr : decide (c = c' ∧ v = v' ∧ d = d' ∧ la = lb) = r
  have HR := Lib.hid hr
  clear hr
  have hcs : c ≠ c' ∨ (c = c' ∧ v ≠ v') ∨ (c = c' ∧ v = v') := by omega
  refine hide_post fun D hD => ?_
  have hl : d.toList = d'.toList ↔ d = d' := ⟨fun h => Go.WideShapes.bytes_inj (by rwa [ByteArray.toList_eq, ByteArray.toList_eq] at h), fun h => by rw [h]⟩
  have hB : ∀ o o', Below w.heap.size w ((w.alloc o).alloc o') := fun o o' => ((Below.refl _ _).alloc (Nat.le_refl _) _).alloc (by simp) _
  have HC : Hid (∀ o o', Calls Try.prog 59 #[.slice A la.length ca, .slice B lb.length cb] ((w.alloc o).alloc o') fun e w' => e = .returned (.bool (decide (la = lb))) ∧ Below w.heap.size w w') := fun o o' =>
    (ints_any A B ca cb la lb _ h1 h2 (hs.stay (hB o o')) (hs2.stay (hB o o'))).mono fun _ _ ⟨he, h⟩ => ⟨he, Below.step (hB o o') h⟩
  have HD : Hid (∀ o o' b, b = r → D (.returned (.bool b)) ((w.alloc o).alloc o')) := fun o o' b h => hD.out _ _ ⟨ret_bool h, hB o o'⟩
  clear hB hs hs2
  generalize la.length = na at *
  generalize lb.length = nb at *
  rcases hcs with h1 | ⟨rfl, h1⟩ | ⟨rfl, rfl⟩
  case inr.inr =>
    by_cases hd : d = d'
    · have hE : r = decide (la = lb) := by rw [← HR.out]; exact dec_iff (by simp [hd])
      have HE := Lib.hid hE
      clear hE hl
      subst hd
      go_enter Try.func51, Try.ntmps51
      go_wp2_with (go_at_call 59; (with_reducible refine (HC.out _ _).mono ?_); rintro e w1 ⟨rfl, h⟩; have H := Lib.hid h; clear h)
      try go_ret
      exact hD.out _ _ ⟨ret_bool HE.out.symm, H.out⟩
    · have hE : r = false := by rw [← HR.out]; exact decide_eq_false (by simp [hd])
      have hl2 : ¬ d.toList = d'.toList := fun h => hd (hl.1 h)
      have HE := Lib.hid hE
      clear hE hl
      go_enter Try.func51, Try.ntmps51
      go_wp2
      try go_ret
      exact HD.out _ _ _ HE.out.symm
  all_goals
    have hE : r = false := by rw [← HR.out]; exact decide_eq_false (by simp [h1])
    have HE := Lib.hid hE
    clear hE hl
    go_enter Try.func51, Try.ntmps51
    go_wp2
    try go_ret
    exact HD.out _ _ _ HE.out.symm
end Go.Proofs.Ytnionfddejaalaa
