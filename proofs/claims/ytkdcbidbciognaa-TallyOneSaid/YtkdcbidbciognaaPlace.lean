/-
  Walks of the document's chapter 12: where a node stands; do all nodes lie below n?
-/
import Derived.Test.YtkdcbidbciognaaChMay
namespace Go.Proofs.Ytkdcbidbciognaa
set_option linter.unusedVariables false
set_option linter.unusedSimpArgs false
open Go.RowKit

theorem place_any (ep x : Int) (A : Option Addr) (cap : Nat) (l : List Int) (w : World) (hl : l.length ≤ 9223372036854775807) (hs : Sl i64 w A l) :
    Calls Try.prog 70 #[chV ep A l.length cap, .int .i64 x] w fun e w' => e = .returned (.int .i64 (idx x l 0)) ∧ Below w.heap.size w w' := by
  have HB : Hid (∀ o, Below w.heap.size w (w.alloc o)) := fun o => (Below.refl _ _).alloc (Nat.le_refl _) _
  obtain ⟨n, hn⟩ : ∃ n, n = l.length := ⟨_, rfl⟩
  rw [← hn] at hl ⊢
  have HN := Lib.hid hn
  have HS := Lib.hid hs
  clear hn hs
  generalize hr : idx x l 0 = r
  have HR := Lib.hid hr
  clear hr
  go_enter Try.func70, Try.ntmps70
  go_wp2
  go_loop [5] (fun i => ∃ k : Nat, k ≤ n ∧ i = .int .i64 k ∧ Hid (r = idx x (l.drop k) k)) (fun i => n - (intOf i).toNat)
  case atStart => exact ⟨0, Nat.zero_le _, rfl, HR.out.symm⟩
  case round =>
    obtain ⟨k, hk, rfl, Hi⟩ := hrel
    by_cases hlt : k < n
    · obtain ⟨b1, o, rfl, hcell⟩ := HS.out.at_ (k := k) (by rw [← HN.out]; exact hlt)
      have hd : l.drop k = l[k]'(by rw [← HN.out]; exact hlt) :: l.drop (k + 1) := List.drop_eq_getElem_cons _
      have Hd := Lib.hid hd
      clear hd
      generalize l[k]'(by rw [← HN.out]; exact hlt) = y at *
      have hc2 := fun oo => cell_stay (HB.out oo) hcell
      unfold i64 at hc2
      clear hcell
      by_cases hb : y = x
      · have HE : Hid (r = k) := by show _ = _; rw [Hi.out, Hd.out, idx, if_pos hb.symm]
        subst hb
        go_wp2
        go_ret
        exact ⟨ret_int HE.out.symm, HB.out _⟩
      · have HE : Hid (r = idx x (l.drop (k + 1)) (k + 1)) := by show _ = _; rw [Hi.out, Hd.out, idx, if_neg (fun e => hb e.symm)]
        go_wp2
        go_round
        case rel => exact ⟨k + 1, by omega, by go_num, HE⟩
        case measure => simp [intOf]; omega
    · go_wp2
      go_ret
      exact ⟨ret_int (by rw [Hi.out, List.drop_of_length_le (by have := HN.out; omega)]; rfl), HB.out _⟩

theorem belowRef_any (ep x : Int) (A : Option Addr) (cap : Nat) (l : List Int) (w : World) (hl : l.length ≤ 9223372036854775807) (hs : Sl i64 w A l) :
    Calls Try.prog 69 #[chV ep A l.length cap, .int .i64 x] w fun e w' => e = .returned (.bool (l.all fun y => decide (y < x))) ∧ Below w.heap.size w w' := by
  have HB : Hid (∀ o, Below w.heap.size w (w.alloc o)) := fun o => (Below.refl _ _).alloc (Nat.le_refl _) _
  obtain ⟨n, hn⟩ : ∃ n, n = l.length := ⟨_, rfl⟩
  rw [← hn] at hl ⊢
  have HN := Lib.hid hn
  have HS := Lib.hid hs
  clear hn hs
  generalize hr : (l.all fun y => decide (y < x)) = r
  have HR := Lib.hid hr
  clear hr
  go_enter Try.func69, Try.ntmps69
  go_wp2
  go_loop [5] (fun i => ∃ k : Nat, k ≤ n ∧ i = .int .i64 k ∧ Hid (r = (l.drop k).all fun y => decide (y < x))) (fun i => n - (intOf i).toNat)
  case atStart => exact ⟨0, Nat.zero_le _, rfl, HR.out.symm⟩
  case round =>
    obtain ⟨k, hk, rfl, Hi⟩ := hrel
    by_cases hlt : k < n
    · obtain ⟨b1, o, rfl, hcell⟩ := HS.out.at_ (k := k) (by rw [← HN.out]; exact hlt)
      have hd : l.drop k = l[k]'(by rw [← HN.out]; exact hlt) :: l.drop (k + 1) := List.drop_eq_getElem_cons _
      have Hd := Lib.hid hd
      clear hd
      generalize l[k]'(by rw [← HN.out]; exact hlt) = y at *
      have hc2 := fun oo => cell_stay (HB.out oo) hcell
      unfold i64 at hc2
      clear hcell
      by_cases hb : y < x
      · have HE : Hid (r = (l.drop (k + 1)).all fun y => decide (y < x)) := by show _ = _; rw [Hi.out, Hd.out, List.all_cons, decide_eq_true hb, Bool.true_and]
        go_wp2
        go_round
        case rel => exact ⟨k + 1, by omega, by go_num, HE⟩
        case measure => simp [intOf]; omega
      · have HE : Hid (r = false) := by show _ = _; rw [Hi.out, Hd.out, List.all_cons, decide_eq_false hb, Bool.false_and]
        go_wp2
        go_ret
        exact ⟨ret_bool HE.out.symm, HB.out _⟩
    · go_wp2
      go_ret
      exact ⟨ret_bool (by rw [Hi.out, List.drop_of_length_le (by have := HN.out; omega)]; rfl), HB.out _⟩
end Go.Proofs.Ytkdcbidbciognaa
