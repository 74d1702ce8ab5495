/-
  The law package's own small questions of package ballot: answered yes.
-/
import Derived.Test.YtgcclkdlomifcaaNext
namespace Go.Proofs.Ytgcclkdlomifcaa
set_option linter.unusedVariables false
set_option linter.unusedSimpArgs false
open Go.RowKit

set_option maxHeartbeats 4000000 in
theorem told_bal (w : World) : Calls Try.prog 32 #[] w fun e w' => e = .returned (.bool true) ∧ Below w.heap.size w w' := by
  refine hide_post fun D hD => ?_
  have HN1 : Hid (∀ W, Calls Try.prog 68 #[.agg #[.int .i64 3, .int .i64 1], .int .i64 2] W fun e w' => e = .returned (.tuple #[.agg #[.int .i64 3, .int .i64 2], .bool true]) ∧ Ext W w') := fun W => (next_any 3 1 2 true (by decide) W).mono fun _ _ ⟨he, h⟩ => ⟨by rw [he]; rfl, h⟩
  have HN2 : Hid (∀ W, Calls Try.prog 68 #[.agg #[.int .i64 3, .int .i64 1], .int .i64 0] W fun e w' => e = .returned (.tuple #[.agg #[.int .i64 4, .int .i64 0], .bool true]) ∧ Ext W w') := fun W => (next_any 3 1 0 true (by decide) W).mono fun _ _ ⟨he, h⟩ => ⟨by rw [he]; rfl, h⟩
  have HM1 : Hid (∀ W, Calls Try.prog 31 #[.agg #[.int .i64 3, .int .i64 2]] W fun e w' => e = .returned (.bool true) ∧ Ext W w') := fun W => (mayBal_any 3 2 W).mono fun _ _ ⟨he, h⟩ => ⟨by rw [he]; rfl, h⟩
  have HM2 : Hid (∀ W, Calls Try.prog 31 #[.agg #[.int .i64 (-1), .int .i64 0]] W fun e w' => e = .returned (.bool false) ∧ Ext W w') := fun W => (mayBal_any (-1) 0 W).mono fun _ _ ⟨he, h⟩ => ⟨by rw [he]; rfl, h⟩
  have HC : Hid (∀ W, Calls Try.prog 69 #[.agg #[.int .i64 3, .int .i64 2], .agg #[.int .i64 4, .int .i64 0]] W fun e w' => e = .returned (.int .i64 (-1)) ∧ Ext W w') := fun W => (balCmp_any 3 2 4 0 W).mono fun _ _ ⟨he, h⟩ => ⟨by rw [he]; rfl, h⟩
  go_enter Try.func32, Try.ntmps32
  go_wp2_with (first
    | (go_at_call 68; (with_reducible refine (HN1.out _).mono ?_); rintro e w1 ⟨rfl, hx⟩; have X1 := Lib.hid hx; clear hx)
    | (go_at_call 68; (with_reducible refine (HN2.out _).mono ?_); rintro e w2 ⟨rfl, hx⟩; have a0 := ((Blk.new w1 56 #[.int .i64 3, .int .i64 2]).stay hx).cell 0; have a1 := ((Blk.new w1 56 #[.int .i64 3, .int .i64 2]).stay hx).cell 1; have z : w1.heap.size < w2.heap.size := ((Blk.new w1 56 #[.int .i64 3, .int .i64 2]).stay hx).lt; have X2 := Lib.hid hx; clear hx)
    | (go_at_call 31; (with_reducible refine (HM1.out _).mono ?_); rintro e w3 ⟨rfl, hx⟩; have X3 := Lib.hid hx; clear hx)
    | (go_at_call 31; (with_reducible refine (HM2.out _).mono ?_); rintro e w4 ⟨rfl, hx⟩; have a0 := (((((Blk.new w1 56 #[.int .i64 3, .int .i64 2]).stay X2.out).alloc _).stay X3.out).stay hx).cell 0; have a1 := (((((Blk.new w1 56 #[.int .i64 3, .int .i64 2]).stay X2.out).alloc _).stay X3.out).stay hx).cell 1; have b0 := (((Blk.new w2 56 #[.int .i64 4, .int .i64 0]).stay X3.out).stay hx).cell 0; have b1 := (((Blk.new w2 56 #[.int .i64 4, .int .i64 0]).stay X3.out).stay hx).cell 1; have X4 := Lib.hid hx; clear hx)
    | (go_at_call 69; (with_reducible refine (HC.out _).mono ?_); rintro e w5 ⟨rfl, hx⟩; have X5 := Lib.hid hx; clear hx))
  try go_ret
  exact hD.out _ _ ⟨rfl, Ext.trans (Ext.trans (Ext.trans (Ext.trans (Ext.trans (Ext.trans X1.out (Ext.alloc _ _)) X2.out) (Ext.alloc _ _)) X3.out) X4.out) X5.out⟩
end Go.Proofs.Ytgcclkdlomifcaa
