/-
  A count that is none (law 14).
-/
import Derived.Test.YtkdcbidbciognaaTally2
namespace Go.Proofs.Ytkdcbidbciognaa
set_option linter.unusedVariables false
set_option linter.unusedSimpArgs false
open Go.RowKit

set_option maxHeartbeats 4000000 in
theorem new_no14 (n br bn ep : Int) (A : Option Addr) (cap : Nat) (l : List Int) (w : World) (h : ¬ (1 ≤ n ∧ n ≤ 5 ∧ mayBal br bn = true ∧ mayChainB ep l = true)) (hl : l.length ≤ 1000000) (hcap : l.length ≤ cap) (hs : Sl i64 w A l) :
    Calls Try.prog 12 #[.int .i64 n, .agg #[.int .i64 br, .int .i64 bn], .agg #[.int .i64 ep, .slice A l.length cap]] w fun e w' => e = .returned (.tuple #[.pointer none, .int .i64 1]) ∧ Ext w w' := by
  refine hide_post fun D hD => ?_
  obtain ⟨w0, hw0⟩ : ∃ w0, w0 = (w.alloc (.cells #[.int .i64 br, .int .i64 bn] 23)).alloc (.cells #[.int .i64 ep, .slice A l.length cap] 26) := ⟨_, rfl⟩
  have hb0 : Ext w w0 := by rw [hw0]; exact ((Below.refl _ _).alloc (Nat.le_refl _) _).alloc (by simp) _
  have K1 : Hid (Blk w0 (w.heap.size + 1) 26 #[.int .i64 ep, .slice A l.length cap]) := by show Blk _ _ _ _; rw [hw0]; exact Blk.new' _ _ _ _ (by simp)
  have XA : Hid (Ext w ((w.alloc (.cells #[.int .i64 br, .int .i64 bn] 23)).alloc (.cells #[.int .i64 ep, .slice A l.length cap] 26))) := ((Below.refl _ _).alloc (Nat.le_refl _) _).alloc (by simp) _
  have HM0 : Hid (∀ b, mayBal br bn = b → ∀ W, Calls Try.prog 44 #[.agg #[.int .i64 br, .int .i64 bn]] W fun e w' => e = .returned (.bool b) ∧ Ext W w') := fun b hb W => by rw [← hb]; exact mayBal_any br bn W
  have HC0 : Hid (∀ b, mayChainB ep l = b → ∀ W, Ext w0 W → Calls Try.prog 45 #[.agg #[.int .i64 ep, .slice A l.length cap]] W fun e w' => e = .returned (.bool b) ∧ Ext W w') := fun b hb W h => by rw [← hb]; exact mayChain_any ep A cap l W (by omega) hcap (hs.stay (Ext.trans hb0 h))
  have HW0 := Lib.hid hw0
  have HB0 := Lib.hid hb0
  clear hw0 hb0 hs
  by_cases h1 : n < 1
  · clear h
    go_enter Try.func12, Try.ntmps12
    go_wp2_with fail
    try go_ret
    exact hD.out _ _ ⟨rfl, XA.out⟩
  by_cases h5 : 5 < n
  · clear h
    go_enter Try.func12, Try.ntmps12
    go_wp2_with fail
    try go_ret
    exact hD.out _ _ ⟨rfl, XA.out⟩
  cases hb : mayBal br bn with
  | false =>
    have HM := Lib.hid (HM0.out false hb)
    clear h hb HM0 HC0
    go_enter Try.func12, Try.ntmps12
    go_wp2_with (go_at_call 44; rw [← HW0.out]; (with_reducible refine (HM.out _).mono ?_); rintro e w1 ⟨rfl, hx⟩; have a0 := (K1.out.stay hx).cell 0; have a1 := (K1.out.stay hx).cell 1; have X1 := Lib.hid hx; clear hx)
    try go_ret
    exact hD.out _ _ ⟨rfl, Ext.trans HB0.out X1.out⟩
  | true =>
    have hc : mayChainB ep l = false := by
      cases hc : mayChainB ep l with
      | false => rfl
      | true => exact absurd ⟨by omega, by omega, hb, hc⟩ h
    have HM := Lib.hid (HM0.out true hb)
    have HC := Lib.hid (HC0.out false hc)
    clear h hb hc HM0 HC0
    go_enter Try.func12, Try.ntmps12
    go_wp2_with (first
      | (go_at_call 44; rw [← HW0.out]; (with_reducible refine (HM.out _).mono ?_); rintro e w1 ⟨rfl, hx⟩; have a0 := (K1.out.stay hx).cell 0; have a1 := (K1.out.stay hx).cell 1; have X1 := Lib.hid hx; clear hx)
      | (go_at_call 45; (with_reducible refine (HC.out _ X1.out).mono ?_); rintro e w2 ⟨rfl, hx⟩; have X2 : Hid (Ext w0 w2) := Ext.trans X1.out hx; clear hx))
    try go_ret
    exact hD.out _ _ ⟨rfl, Ext.trans HB0.out X2.out⟩

end Go.Proofs.Ytkdcbidbciognaa
