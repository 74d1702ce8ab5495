/-
  Two lists of numbers, compared by the document's answer.
-/
import Derived.Test.YtkdcbidbciognaaBase
namespace Go.Proofs.Ytkdcbidbciognaa
set_option linter.unusedVariables false
set_option linter.unusedSimpArgs false
open Go.RowKit

theorem ints_any (A B : Option Addr) (c1 c2 : Nat) (la lb : List Int) (w : World) (hbig : la.length ≤ 9223372036854775807) (hbig2 : lb.length ≤ 9223372036854775807) (hs : Sl i64 w A la) (hs2 : Sl i64 w B lb) :
    Calls Try.prog 50 #[.slice A la.length c1, .slice B lb.length c2] w fun e w' => e = .returned (.bool (decide (la = lb))) ∧ Below w.heap.size w w' := by
  generalize hr : decide (la = lb) = r
  have HR := Lib.hid hr
  clear hr
  have HS : Hid (∀ W, Below w.heap.size w W → Sl i64 W A la ∧ Sl i64 W B lb) := fun W h => ⟨hs.stay h, hs2.stay h⟩
  clear hs hs2
  obtain ⟨n, hn⟩ : ∃ n, n = la.length := ⟨_, rfl⟩
  obtain ⟨m, hm⟩ : ∃ m, m = lb.length := ⟨_, rfl⟩
  rw [← hn] at hbig ⊢
  rw [← hm] at hbig2 ⊢
  have HN := Lib.hid hn
  have HM := Lib.hid hm
  clear hn hm
  by_cases hnm : n = m
  case neg =>
    go_enter Try.func50, Try.ntmps50
    go_wp2
    go_ret
    exact ⟨ret_bool (by rw [← HR.out]; exact dec_false (fun e => hnm (by rw [HN.out, HM.out, e]))), Below.refl _ _⟩
  subst hnm
  have HB0 : Hid (Below w.heap.size w w) := Below.refl _ _
  go_enter Try.func50, Try.ntmps50
  go_wp2
  go_loopw [5] (fun i wr => ∃ k : Nat, k ≤ n ∧ i = .int .i64 k ∧ Hid (Below w.heap.size w wr ∧ r = decide (la.drop k = lb.drop k))) (fun i _ => n - (intOf i).toNat)
  case atStart => exact ⟨0, Nat.zero_le _, rfl, HB0.out, HR.out.symm⟩
  case round =>
    obtain ⟨k, hk, rfl, Hi⟩ := hrel
    by_cases hlt : k < n
    · obtain ⟨HA, HB⟩ := HS.out wr Hi.out.1
      obtain ⟨b1, o1, rfl, hc1⟩ := HA.at_ (k := k) (by rw [← HN.out]; exact hlt)
      obtain ⟨b2, o2, rfl, hc2⟩ := HB.at_ (k := k) (by rw [← HM.out]; exact hlt)
      have hd : la.drop k = la[k]'(by rw [← HN.out]; exact hlt) :: la.drop (k + 1) := List.drop_eq_getElem_cons _
      have hd2 : lb.drop k = lb[k]'(by rw [← HM.out]; exact hlt) :: lb.drop (k + 1) := List.drop_eq_getElem_cons _
      have Hd := Lib.hid hd
      have Hd2 := Lib.hid hd2
      clear hd hd2 HA HB
      generalize la[k]'(by rw [← HN.out]; exact hlt) = x at *
      generalize lb[k]'(by rw [← HM.out]; exact hlt) = y at *
      unfold i64 at hc1 hc2
      have hk0 : (0 : Int) ≤ (k : Int) := by omega
      have hk1 : (k : Int) < (n : Int) := by omega
      by_cases hxy : x = y
      · have HE : Hid (r = decide (la.drop (k + 1) = lb.drop (k + 1))) := by
          show _ = _
          rw [Hi.out.2, Hd.out, Hd2.out]
          exact dec_iff (by rw [hxy]; simp)
        subst hxy
        go_wp2
        go_quiet (fail)
        go_wp2
        go_roundw
        case rel => exact ⟨k + 1, by omega, by go_num, by have := Hi.out.1; exact ⟨this.os, this.tape, this.output, this.size, this.block⟩, HE.out⟩
        case measure => simp [intOf]; omega
      · have HE : Hid (r = false) := by
          show _ = _
          rw [Hi.out.2, Hd.out, Hd2.out]
          exact (dec_false (by intro e; injection e with e1 e2; exact hxy e1)).symm
        go_wp2
        go_quiet (fail)
        go_wp2
        go_ret
        exact ⟨ret_bool HE.out.symm, by have := Hi.out.1; exact ⟨this.os, this.tape, this.output, this.size, this.block⟩⟩
    · go_wp2
      go_ret
      exact ⟨ret_bool (by rw [Hi.out.2, List.drop_of_length_le (by have := HN.out; omega), List.drop_of_length_le (by have := HM.out; omega)]; simp), Hi.out.1⟩
end Go.Proofs.Ytkdcbidbciognaa
