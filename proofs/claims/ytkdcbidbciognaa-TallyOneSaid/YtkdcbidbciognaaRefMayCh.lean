/-
  The walk of the document's MayChain.
-/
import Derived.Test.YtkdcbidbciognaaMayChain
import Derived.Test.YtkdcbidbciognaaHeld
namespace Go.Proofs.Ytkdcbidbciognaa
set_option linter.unusedVariables false
set_option linter.unusedSimpArgs false
open Go.RowKit


set_option maxHeartbeats 4000000 in
theorem refMayChain_any (ep : Int) (A : Option Addr) (cap : Nat) (l : List Int) (w : World) (hl : l.length ≤ 9223372036854775807) (hs : Sl i64 w A l) :
    Calls Try.prog 14 #[.agg #[.int .i64 ep, .slice A l.length cap]] w fun e w' => e = .returned (.bool (mayChainB ep l)) ∧ Below w.heap.size w w' := by
  have HB : Hid (∀ o, Below w.heap.size w (w.alloc o)) := fun o => (Below.refl _ _).alloc (Nat.le_refl _) _
  have HS : Hid (∀ o, Sl i64 (w.alloc o) A l) := fun o => hs.stay (HB.out o)
  generalize hr : mayChainB ep l = r
  have HR := Lib.hid hr
  clear hr hs
  unfold mayChainB at HR
  generalize hn : l.length = n at *
  have HN := Lib.hid hn
  clear hn
  by_cases h : (0 ≤ ep ∧ ep ≤ 1073741824) ∧ 1 ≤ n ∧ n ≤ 5
  case neg =>
    have HR' : Hid (r = false) := by (show _ = _); rw [← HR.out]; simp; intro a b c d; omega
    rcases (show ep < 0 ∨ (¬ ep < 0 ∧ 1073741824 < ep) ∨ (¬ ep < 0 ∧ ¬ 1073741824 < ep ∧ n < 1) ∨ (¬ ep < 0 ∧ ¬ 1073741824 < ep ∧ ¬ n < 1 ∧ 5 < n) by omega) with t | ⟨t, t1⟩ | ⟨t, t1, t2⟩ | ⟨t, t1, t2, t3⟩
    all_goals
      clear h
      go_enter Try.func14, Try.ntmps14
      go_wp2
      go_ret
      exact ⟨ret_bool HR'.out.symm, HB.out _⟩
  obtain ⟨⟨t0, t1⟩, t2, t3⟩ := h
  have HO : Hid (okNodes [] l = r) := by (show _ = _); rw [← HR.out, decide_eq_true ⟨t0, t1⟩, decide_eq_true ⟨t2, t3⟩]; rfl
  clear HR
  obtain ⟨w0, hw0⟩ : ∃ w0, w0 = w.alloc (.cells #[.int .i64 ep, .slice A n cap] 26) := ⟨_, rfl⟩
  have hb0 : Ext w w0 := by rw [hw0]; exact (Below.refl _ _).alloc (Nat.le_refl _) _
  have K0 : Hid (Blk w0 w.heap.size 26 #[.int .i64 ep, .slice A n cap]) := by (show Blk _ _ _ _); rw [hw0]; exact Blk.new w _ _
  have HSX : Hid (∀ W, Ext w0 W → Sl i64 W A l) := fun W hW => ((by rw [hw0]; exact HS.out _ : Sl i64 w0 A l)).stay hW
  have HB0 := Lib.hid hb0
  have HW0 := Lib.hid hw0
  clear hb0 hw0 HS HB
  go_enter Try.func14, Try.ntmps14
  go_wp2
  rw [← HW0.out]
  clear t0 t1
  go_loopw [3] (fun i wr => ∃ k : Nat, k ≤ n ∧ i = .int .i64 k ∧ Hid (r = okNodes (l.take k) (l.drop k)) ∧ Hid (Ext w0 wr)) (fun i _ => n - (intOf i).toNat)
  case atStart => exact ⟨0, Nat.zero_le _, rfl, HO.out.symm, Ext.refl _⟩
  case round =>
    obtain ⟨k, hk, rfl, Hi, E0⟩ := hrel
    have c0 := (K0.out.stay E0.out).cell 0
    have c1 := (K0.out.stay E0.out).cell 1
    simp at c0 c1
    by_cases hlt : k < n
    · obtain ⟨b, o, rfl, hcell⟩ := (HSX.out _ E0.out).at_ (k := k) (by rw [HN.out]; exact hlt)
      have Hd := Lib.hid (okNodes_step l k (by rw [HN.out]; exact hlt))
      have Hk := Lib.hid (List.getElem?_eq_getElem (l := l) (i := k) (by rw [HN.out]; exact hlt))
      generalize l[k]'(by rw [HN.out]; exact hlt) = x at *
      unfold i64 at hcell
      by_cases hx : 0 ≤ x ∧ x ≤ 4
      case neg =>
        have HE : Hid (r = false) := by (show _ = _); rw [Hi.out, Hd.out, decide_eq_false hx]; rfl
        rcases (show x < 0 ∨ (¬ x < 0 ∧ 5 ≤ x) by omega) with t | ⟨t, t1⟩
        all_goals
          clear hx
          go_wp2
          go_ret
          exact ⟨ret_bool HE.out.symm, Ext.trans HB0.out E0.out⟩
      obtain ⟨x0, x1⟩ := hx
      have HE : Hid (r = (!decide (x ∈ l.take k) && okNodes (l.take (k + 1)) (l.drop (k + 1)))) := by (show _ = _); rw [Hi.out, Hd.out, decide_eq_true ⟨x0, x1⟩]; rfl
      go_wp2
      clear hcell c0 c1
      obtain ⟨wo, rfl⟩ : ∃ wo : World, wo = wr := ⟨_, rfl⟩
      go_loopw [4] (fun i wr => ∃ j : Nat, j ≤ k ∧ i = .int .i64 j ∧ Hid (¬ x ∈ l.take j) ∧ Hid (Ext w0 wr)) (fun i _ => k - (intOf i).toNat)
      case atStart => exact ⟨0, Nat.zero_le _, rfl, by (show ¬ _); simp, E0⟩
      case round =>
        obtain ⟨j, hj, rfl, Hj, E1⟩ := hrel
        have c0 := (K0.out.stay E1.out).cell 0
        have c1 := (K0.out.stay E1.out).cell 1
        simp at c0 c1
        by_cases hjk : j < k
        · obtain ⟨b8, o8, e8, hc8⟩ := HSX.out _ E1.out k x Hk.out
          obtain ⟨b9, o9, e9, hc9⟩ := (HSX.out _ E1.out).at_ (k := j) (by rw [HN.out]; omega)
          injection e8 with e8
          injection e8 with e1 e2
          subst e1 e2
          injection e9 with e9
          injection e9 with e1 e2
          subst e1 e2
          have ht : l.take (j + 1) = l.take j ++ [l[j]'(by rw [HN.out]; omega)] := List.take_succ_eq_append_getElem _
          have hin : l[j]'(by rw [HN.out]; omega) ∈ l.take k := by
            have h1 : (l.take k)[j]? = some (l[j]'(by rw [HN.out]; omega)) := by rw [List.getElem?_take, if_pos hjk]; exact List.getElem?_eq_getElem _
            exact List.mem_of_getElem? h1
          have HT := Lib.hid ht
          have HI := Lib.hid hin
          clear ht hin
          generalize l[j]'(by rw [HN.out]; omega) = y at *
          unfold i64 at hc8 hc9
          have j0 : (0 : Int) ≤ (j : Int) := by omega
          have j1 : (j : Int) < (n : Int) := by omega
          have k0 : (0 : Int) ≤ (k : Int) := by omega
          have k1 : (k : Int) < (n : Int) := by omega
          by_cases hy : y = x
          · have HE2 : Hid (r = false) := by (show _ = _); rw [HE.out, decide_eq_true (show x ∈ l.take k by rw [← hy]; exact HI.out)]; rfl
            subst hy
            go_wp2
            go_quiet (fail)
            go_wp2
            go_ret
            exact ⟨ret_bool HE2.out.symm, Ext.trans HB0.out E1.out.drewN⟩
          · have HJ2 : Hid (¬ x ∈ l.take (j + 1)) := by (show ¬ _); rw [HT.out]; simp; exact ⟨Hj.out, fun e => hy e.symm⟩
            go_wp2
            go_quiet (fail)
            go_wp2
            go_roundw
            case rel => exact ⟨j + 1, by omega, by go_num, HJ2, E1.out.drewN⟩
            case measure => simp [intOf]; omega
        · obtain rfl : j = k := by omega
          have HE2 : Hid (r = okNodes (l.take (j + 1)) (l.drop (j + 1))) := by (show _ = _); rw [HE.out, decide_eq_false Hj.out]; rfl
          go_wp2
          go_roundw
          case rel => exact ⟨j + 1, by omega, by go_num, HE2, E1⟩
          case measure => simp [intOf]; omega
    · go_wp2
      go_ret
      exact ⟨ret_bool (by rw [Hi.out, List.drop_of_length_le (by have := HN.out; omega)]; rfl), Ext.trans HB0.out E0.out⟩
end Go.Proofs.Ytkdcbidbciognaa
