/-
  Two votes that are the same.
-/
import Derived.Test.YtkdcbidbciognaaAccStep
namespace Go.Proofs.Ytkdcbidbciognaa
set_option linter.unusedVariables false
set_option linter.unusedSimpArgs false
open Go.RowKit

set_option maxHeartbeats 4000000 in
theorem sameVote_eq (pr pn ar an : Int) (has : Bool) (vep : Int) (A B : Option Addr) (c1 c2 : Nat) (l : List Int) (w : World) (hl : l.length ≤ 1000000) (hA : Sl i64 w A l) (hB : Sl i64 w B l) :
    Calls Try.prog 33 #[.agg #[.int .i64 pr, .int .i64 pn, .int .i64 ar, .int .i64 an, .bool has, .int .i64 vep, .slice A l.length c1], .agg #[.int .i64 pr, .int .i64 pn, .int .i64 ar, .int .i64 an, .bool has, .int .i64 vep, .slice B l.length c2]] w fun e w' => e = .returned (.bool true) ∧ Ext w w' := by
  refine hide_post fun D hD => ?_
  obtain ⟨w0, hw0⟩ : ∃ w0, w0 = (w.alloc (.cells #[.int .i64 pr, .int .i64 pn, .int .i64 ar, .int .i64 an, .bool has, .int .i64 vep, .slice A l.length c1] 40)).alloc (.cells #[.int .i64 pr, .int .i64 pn, .int .i64 ar, .int .i64 an, .bool has, .int .i64 vep, .slice B l.length c2] 40) := ⟨_, rfl⟩
  have hb0 : Ext w w0 := by rw [hw0]; exact Ext.trans (ext_al _ _) (ext_al _ _)
  have HC : Hid (Calls Try.prog 23 #[.agg #[.int .i64 vep, .slice A l.length c1], .agg #[.int .i64 vep, .slice B l.length c2]] w0 fun e w' => e = .returned (.bool true) ∧ Ext w0 w') := (sameRef_any vep vep A B c1 c2 l l w0 (by omega) (by omega) (hA.stay hb0) (hB.stay hb0)).mono fun e w' ⟨h1, h2⟩ => ⟨by rw [h1]; simp, h2⟩
  have HB := Lib.hid hb0
  have HW := Lib.hid hw0
  generalize l.length = N at *
  clear hb0 hw0 hA hB
  go_enter Try.func33, Try.ntmps33
  go_wp2_with (go_at_call 23; rw [← HW.out]; (with_reducible refine HC.out.mono ?_); rintro e w1 ⟨rfl, hx⟩; have X1 := Lib.hid hx; clear hx)
  try go_ret
  exact hD.out _ _ ⟨rfl, Ext.trans HB.out X1.out⟩
end Go.Proofs.Ytkdcbidbciognaa
