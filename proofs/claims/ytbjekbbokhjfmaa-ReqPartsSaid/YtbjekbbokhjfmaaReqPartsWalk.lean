/-
  The walk of the law ReqParts.
-/
import Derived.Test.YtbjekbbokhjfmaaToldReq
import Derived.Test.YtbjekbbokhjfmaaHeld
import Derived.Test.YtbjekbbokhjfmaaSized
import Derived.Test.YtbjekbbokhjfmaaFrm
import Derived.RegionTactic
import Derived.BigRegion
namespace Go.Proofs.Ytbjekbbokhjfmaa
set_option linter.unusedVariables false
set_option linter.unusedSimpArgs false
open Go.RowKit Go.ChangeShapes Go.WideShapes

theorem xor_ne (a k : Int) (hk : BitVec.ofInt 64 k ≠ 0#64) : bits BinOp.xor IntKind.i64 a k ≠ a := by
  intro h
  have h2 : IntKind.i64.wrap ((BitVec.ofInt 64 a ^^^ BitVec.ofInt 64 k).toNat : Int) = a := h
  have h3 : BitVec.ofInt 64 (IntKind.i64.wrap ((BitVec.ofInt 64 a ^^^ BitVec.ofInt 64 k).toNat : Int)) = BitVec.ofInt 64 a := by rw [h2]
  have h4 : BitVec.ofInt 64 (IntKind.i64.wrap ((BitVec.ofInt 64 a ^^^ BitVec.ofInt 64 k).toNat : Int)) = BitVec.ofInt 64 a ^^^ BitVec.ofInt 64 k := by
    generalize BitVec.ofInt 64 a ^^^ BitVec.ofInt 64 k = x
    apply BitVec.eq_of_toNat_eq
    rw [BitVec.toNat_ofInt, IntKind.wrap_i64]
    have := x.isLt
    omega
  rw [h4] at h3
  have : BitVec.ofInt 64 k = 0#64 := by
    have := congrArg (fun y => BitVec.ofInt 64 a ^^^ y) h3
    simpa [← BitVec.xor_assoc] using this
  exact hk this


theorem Ext.drewR {w w1 : World} (h : Ext w w1) : Ext w w1.drew := Below.drew h

theorem app_ne (d : ByteArray) : ¬ d = d ++ { data := #[120] } := fun h => by
  have := congrArg ByteArray.size h
  rw [ByteArray.size_append] at this
  have h1 : ({ data := #[120] } : ByteArray).size = 1 := rfl
  omega


set_option maxHeartbeats 8000000 in
theorem reqParts_0 (ac as_ ak ai am : Int) (ad : ByteArray) (rc rv : Int) (rd : ByteArray) (RA : Option Addr) (rcap : Nat) (rl : List Int) (n : Int) (w : World)
    (had : ad.size ≤ maxLen) (hr : rl.length ≤ 9223372036854775807) (hR : Sl i64 w RA rl) (hrd : rd.size ≤ 140737488351232) (g1 : ¬ 50 < rl.length) (g2 : ¬ 300 < ad.size) (hm : wrap64 ((IntKind.u64.wrap n).tmod 6) = 0) : Calls Try.prog 6 #[reqV ac as_ ak ai am ad, repV rc rv rd RA rl.length rcap, .int .i64 n] w fun e w' => e = .returned (.bool true) ∧ Below w.heap.size w w' := by
  refine hide_post fun D hD => ?_
  obtain ⟨w0, hw0⟩ : ∃ w0, w0 = ((((w.alloc (.cells #[.int .i64 ac, .int .i64 as_, .int .i64 ak, .int .i64 ai, .int .i64 am, .string ad] 35)).alloc (.cells #[.int .i64 rc, .int .i64 rv, .string rd, .slice RA rl.length rcap] 37)).alloc (.cells #[.int .i64 (bits BinOp.xor IntKind.i64 ac 1), .int .i64 as_, .int .i64 ak, .int .i64 ai, .int .i64 am, .string ad] 35)).alloc (.cells #[.int .i64 (bits BinOp.xor IntKind.i64 rc 1), .int .i64 rv, .string rd, .slice RA rl.length rcap] 37)).drew.drew := ⟨_, rfl⟩
  have k0 : Blk w0 w.heap.size 35 #[.int .i64 ac, .int .i64 as_, .int .i64 ak, .int .i64 ai, .int .i64 am, .string ad] := by rw [hw0]; exact (((Blk.new _ _ _).alloc _).alloc _).alloc _
  have k1 : Blk w0 (w.heap.size + 1) 37 #[.int .i64 rc, .int .i64 rv, .string rd, .slice RA rl.length rcap] := by rw [hw0]; exact ((Blk.new' _ _ _ _ (by simp)).alloc _).alloc _
  have k2 : Blk w0 (w.heap.size + 1 + 1) 35 #[.int .i64 (bits BinOp.xor IntKind.i64 ac 1), .int .i64 as_, .int .i64 ak, .int .i64 ai, .int .i64 am, .string ad] := by rw [hw0]; exact (Blk.new' _ _ _ _ (by simp)).alloc _
  have k3 : Blk w0 (w.heap.size + 1 + 1 + 1) 37 #[.int .i64 (bits BinOp.xor IntKind.i64 rc 1), .int .i64 rv, .string rd, .slice RA rl.length rcap] := by rw [hw0]; exact Blk.new' _ _ _ _ (by simp)
  have HB0 : Hid (Ext w w0) := by show Below _ _ _; rw [hw0]; exact Ext.drewR (Ext.drewR (((((Below.refl _ _).alloc (Nat.le_refl _) _).alloc (by simp) _).alloc (by simp; omega) _).alloc (by simp; omega) _))
  have HW0 := Lib.hid hw0
  have K00 := Lib.hid k0
  have K10 := Lib.hid k1
  have K20 := Lib.hid k2
  have K30 := Lib.hid k3
  clear hw0 k0 k1 k2 k3
  obtain ⟨w1, hw0⟩ : ∃ w0, w0 = ((((w.alloc (.cells #[.int .i64 ac, .int .i64 as_, .int .i64 ak, .int .i64 ai, .int .i64 am, .string ad] 35)).alloc (.cells #[.int .i64 rc, .int .i64 rv, .string rd, .slice RA rl.length rcap] 37)).alloc (.cells #[.int .i64 (bits BinOp.xor IntKind.i64 rc 1), .int .i64 rv, .string rd, .slice RA rl.length rcap] 37)).alloc (.cells #[.int .i64 (bits BinOp.xor IntKind.i64 ac 1), .int .i64 as_, .int .i64 ak, .int .i64 ai, .int .i64 am, .string ad] 35)).drew.drew := ⟨_, rfl⟩
  have k0 : Blk w1 w.heap.size 35 #[.int .i64 ac, .int .i64 as_, .int .i64 ak, .int .i64 ai, .int .i64 am, .string ad] := by rw [hw0]; exact (((Blk.new _ _ _).alloc _).alloc _).alloc _
  have k1 : Blk w1 (w.heap.size + 1) 37 #[.int .i64 rc, .int .i64 rv, .string rd, .slice RA rl.length rcap] := by rw [hw0]; exact ((Blk.new' _ _ _ _ (by simp)).alloc _).alloc _
  have k2 : Blk w1 (w.heap.size + 1 + 1 + 1) 35 #[.int .i64 (bits BinOp.xor IntKind.i64 ac 1), .int .i64 as_, .int .i64 ak, .int .i64 ai, .int .i64 am, .string ad] := by rw [hw0]; exact Blk.new' _ _ _ _ (by simp)
  have k3 : Blk w1 (w.heap.size + 1 + 1) 37 #[.int .i64 (bits BinOp.xor IntKind.i64 rc 1), .int .i64 rv, .string rd, .slice RA rl.length rcap] := by rw [hw0]; exact (Blk.new' _ _ _ _ (by simp)).alloc _
  have HB1 : Hid (Ext w w1) := by show Below _ _ _; rw [hw0]; exact Ext.drewR (Ext.drewR (((((Below.refl _ _).alloc (Nat.le_refl _) _).alloc (by simp) _).alloc (by simp; omega) _).alloc (by simp; omega) _))
  have HW1 := Lib.hid hw0
  have K01 := Lib.hid k0
  have K11 := Lib.hid k1
  have K21 := Lib.hid k2
  have K31 := Lib.hid k3
  clear hw0 k0 k1 k2 k3
  have HTO : Hid (∀ W, Calls Try.prog 19 #[] W fun e w' => e = .returned (.bool true) ∧ Ext W w') := told_req
  have HS1 : Hid (∀ W, Calls Try.prog 21 #[.agg #[.int .i64 ac, .int .i64 as_, .int .i64 ak, .int .i64 ai, .int .i64 am, .string ad], .agg #[.int .i64 (bits BinOp.xor IntKind.i64 ac 1), .int .i64 as_, .int .i64 ak, .int .i64 ai, .int .i64 am, .string ad]] W fun e w' => e = .returned (.bool false) ∧ Ext W w') := fun W => (same_any _ _ _ _ _ _ _ _ _ _ _ _ W).mono fun _ _ ⟨he, h⟩ => ⟨by rw [he, decide_eq_false (by rintro ⟨h0, h1, h2, h3, h4, h5⟩; exact (fun e => xor_ne _ 1 (by decide) e.symm) h0)], h⟩
  have HS2 : Hid (∀ W, Calls Try.prog 21 #[.agg #[.int .i64 (bits BinOp.xor IntKind.i64 ac 1), .int .i64 as_, .int .i64 ak, .int .i64 ai, .int .i64 am, .string ad], .agg #[.int .i64 (bits BinOp.xor IntKind.i64 ac 1), .int .i64 as_, .int .i64 ak, .int .i64 ai, .int .i64 am, .string ad]] W fun e w' => e = .returned (.bool true) ∧ Ext W w') := fun W => (same_any _ _ _ _ _ _ _ _ _ _ _ _ W).mono fun _ _ ⟨he, h⟩ => ⟨by rw [he, decide_eq_true (by simp)], h⟩
  have HSR : Hid (∀ W, Ext w W → Calls Try.prog 22 #[.agg #[.int .i64 rc, .int .i64 rv, .string rd, .slice RA rl.length rcap], .agg #[.int .i64 (bits BinOp.xor IntKind.i64 rc 1), .int .i64 rv, .string rd, .slice RA rl.length rcap]] W fun e w' => e = .returned (.bool false) ∧ Ext W w') := fun W hW => (sameReply_any _ _ _ _ _ _ RA RA rl rl rcap rcap W hr hr (hR.stay hW) (hR.stay hW)).mono fun _ _ ⟨he, h⟩ => ⟨by rw [he, decide_eq_false (by rintro ⟨h0, h1, h2, h3⟩; exact (fun e => xor_ne _ 1 (by decide) e.symm) h0)], h⟩
  clear hR
  unfold maxLen at had
  have hr2 : ¬ 9223372036854775807 < rd.size + 1 := by omega
  have ha2 : ¬ 9223372036854775807 < ad.size + 1 := by omega
  generalize rl.length = rn at *
  go_enter Try.func6, Try.ntmps6
  go_wp2_with fail
  go_region
  · go_wp2_with fail
    go_region
    go_wp2_with (first
      | (go_at_call 19; rw [← HW0.out]; (with_reducible refine (HTO.out _).mono ?_); rintro e w4 ⟨rfl, hx⟩; have fa0 : ∀ W, Ext w4 W → W.cell? ⟨w.heap.size, 0, none⟩ = some (.int .i64 ac) := fun W h => ((K00.out.stay hx).stay h).cell 0; have fa1 : ∀ W, Ext w4 W → W.cell? ⟨w.heap.size, 1, none⟩ = some (.int .i64 as_) := fun W h => ((K00.out.stay hx).stay h).cell 1; have fa2 : ∀ W, Ext w4 W → W.cell? ⟨w.heap.size, 2, none⟩ = some (.int .i64 ak) := fun W h => ((K00.out.stay hx).stay h).cell 2; have fa3 : ∀ W, Ext w4 W → W.cell? ⟨w.heap.size, 3, none⟩ = some (.int .i64 ai) := fun W h => ((K00.out.stay hx).stay h).cell 3; have fa4 : ∀ W, Ext w4 W → W.cell? ⟨w.heap.size, 4, none⟩ = some (.int .i64 am) := fun W h => ((K00.out.stay hx).stay h).cell 4; have fa5 : ∀ W, Ext w4 W → W.cell? ⟨w.heap.size, 5, none⟩ = some (.string ad) := fun W h => ((K00.out.stay hx).stay h).cell 5; have fr0 : ∀ W, Ext w4 W → W.cell? ⟨w.heap.size + 1, 0, none⟩ = some (.int .i64 rc) := fun W h => ((K10.out.stay hx).stay h).cell 0; have fr1 : ∀ W, Ext w4 W → W.cell? ⟨w.heap.size + 1, 1, none⟩ = some (.int .i64 rv) := fun W h => ((K10.out.stay hx).stay h).cell 1; have fr2 : ∀ W, Ext w4 W → W.cell? ⟨w.heap.size + 1, 2, none⟩ = some (.string rd) := fun W h => ((K10.out.stay hx).stay h).cell 2; have fr3 : ∀ W, Ext w4 W → W.cell? ⟨w.heap.size + 1, 3, none⟩ = some (.slice RA rn rcap) := fun W h => ((K10.out.stay hx).stay h).cell 3; have fb0 : ∀ W, Ext w4 W → W.cell? ⟨w.heap.size + 1 + 1, 0, none⟩ = some (.int .i64 (bits BinOp.xor IntKind.i64 ac 1)) := fun W h => ((K20.out.stay hx).stay h).cell 0; have fb1 : ∀ W, Ext w4 W → W.cell? ⟨w.heap.size + 1 + 1, 1, none⟩ = some (.int .i64 as_) := fun W h => ((K20.out.stay hx).stay h).cell 1; have fb2 : ∀ W, Ext w4 W → W.cell? ⟨w.heap.size + 1 + 1, 2, none⟩ = some (.int .i64 ak) := fun W h => ((K20.out.stay hx).stay h).cell 2; have fb3 : ∀ W, Ext w4 W → W.cell? ⟨w.heap.size + 1 + 1, 3, none⟩ = some (.int .i64 ai) := fun W h => ((K20.out.stay hx).stay h).cell 3; have fb4 : ∀ W, Ext w4 W → W.cell? ⟨w.heap.size + 1 + 1, 4, none⟩ = some (.int .i64 am) := fun W h => ((K20.out.stay hx).stay h).cell 4; have fb5 : ∀ W, Ext w4 W → W.cell? ⟨w.heap.size + 1 + 1, 5, none⟩ = some (.string ad) := fun W h => ((K20.out.stay hx).stay h).cell 5; have fs0 : ∀ W, Ext w4 W → W.cell? ⟨w.heap.size + 1 + 1 + 1, 0, none⟩ = some (.int .i64 (bits BinOp.xor IntKind.i64 rc 1)) := fun W h => ((K30.out.stay hx).stay h).cell 0; have fs1 : ∀ W, Ext w4 W → W.cell? ⟨w.heap.size + 1 + 1 + 1, 1, none⟩ = some (.int .i64 rv) := fun W h => ((K30.out.stay hx).stay h).cell 1; have fs2 : ∀ W, Ext w4 W → W.cell? ⟨w.heap.size + 1 + 1 + 1, 2, none⟩ = some (.string rd) := fun W h => ((K30.out.stay hx).stay h).cell 2; have fs3 : ∀ W, Ext w4 W → W.cell? ⟨w.heap.size + 1 + 1 + 1, 3, none⟩ = some (.slice RA rn rcap) := fun W h => ((K30.out.stay hx).stay h).cell 3; have h4 : Ext w4 w4 := Ext.refl _; have X4 : Hid (Ext w w4) := Ext.trans HB0.out hx; clear hx)
      | (go_at_call 21; (with_reducible refine (HS1.out _).mono ?_); rintro e w5 ⟨rfl, hx⟩; have h5 : Ext w4 w5 := Ext.trans h4 hx; clear hx)
      | (go_at_call 22; (with_reducible refine (HSR.out _ (Ext.trans X4.out h5)).mono ?_); rintro e w6 ⟨rfl, hx⟩; have h6 : Ext w4 w6 := Ext.trans h5 hx; clear hx)
      | (go_at_call 21; (with_reducible refine (HS2.out _).mono ?_); rintro e w7 ⟨rfl, hx⟩; have h7 : Ext w4 w7 := Ext.trans h6 hx; clear hx))
    try go_ret
    exact hD.out _ _ ⟨rfl, Ext.trans X4.out h7⟩
  · go_wp2_with fail
    go_region
    go_wp2_with (first
      | (go_at_call 19; rw [← HW1.out]; (with_reducible refine (HTO.out _).mono ?_); rintro e w4 ⟨rfl, hx⟩; have fa0 : ∀ W, Ext w4 W → W.cell? ⟨w.heap.size, 0, none⟩ = some (.int .i64 ac) := fun W h => ((K01.out.stay hx).stay h).cell 0; have fa1 : ∀ W, Ext w4 W → W.cell? ⟨w.heap.size, 1, none⟩ = some (.int .i64 as_) := fun W h => ((K01.out.stay hx).stay h).cell 1; have fa2 : ∀ W, Ext w4 W → W.cell? ⟨w.heap.size, 2, none⟩ = some (.int .i64 ak) := fun W h => ((K01.out.stay hx).stay h).cell 2; have fa3 : ∀ W, Ext w4 W → W.cell? ⟨w.heap.size, 3, none⟩ = some (.int .i64 ai) := fun W h => ((K01.out.stay hx).stay h).cell 3; have fa4 : ∀ W, Ext w4 W → W.cell? ⟨w.heap.size, 4, none⟩ = some (.int .i64 am) := fun W h => ((K01.out.stay hx).stay h).cell 4; have fa5 : ∀ W, Ext w4 W → W.cell? ⟨w.heap.size, 5, none⟩ = some (.string ad) := fun W h => ((K01.out.stay hx).stay h).cell 5; have fr0 : ∀ W, Ext w4 W → W.cell? ⟨w.heap.size + 1, 0, none⟩ = some (.int .i64 rc) := fun W h => ((K11.out.stay hx).stay h).cell 0; have fr1 : ∀ W, Ext w4 W → W.cell? ⟨w.heap.size + 1, 1, none⟩ = some (.int .i64 rv) := fun W h => ((K11.out.stay hx).stay h).cell 1; have fr2 : ∀ W, Ext w4 W → W.cell? ⟨w.heap.size + 1, 2, none⟩ = some (.string rd) := fun W h => ((K11.out.stay hx).stay h).cell 2; have fr3 : ∀ W, Ext w4 W → W.cell? ⟨w.heap.size + 1, 3, none⟩ = some (.slice RA rn rcap) := fun W h => ((K11.out.stay hx).stay h).cell 3; have fb0 : ∀ W, Ext w4 W → W.cell? ⟨w.heap.size + 1 + 1 + 1, 0, none⟩ = some (.int .i64 (bits BinOp.xor IntKind.i64 ac 1)) := fun W h => ((K21.out.stay hx).stay h).cell 0; have fb1 : ∀ W, Ext w4 W → W.cell? ⟨w.heap.size + 1 + 1 + 1, 1, none⟩ = some (.int .i64 as_) := fun W h => ((K21.out.stay hx).stay h).cell 1; have fb2 : ∀ W, Ext w4 W → W.cell? ⟨w.heap.size + 1 + 1 + 1, 2, none⟩ = some (.int .i64 ak) := fun W h => ((K21.out.stay hx).stay h).cell 2; have fb3 : ∀ W, Ext w4 W → W.cell? ⟨w.heap.size + 1 + 1 + 1, 3, none⟩ = some (.int .i64 ai) := fun W h => ((K21.out.stay hx).stay h).cell 3; have fb4 : ∀ W, Ext w4 W → W.cell? ⟨w.heap.size + 1 + 1 + 1, 4, none⟩ = some (.int .i64 am) := fun W h => ((K21.out.stay hx).stay h).cell 4; have fb5 : ∀ W, Ext w4 W → W.cell? ⟨w.heap.size + 1 + 1 + 1, 5, none⟩ = some (.string ad) := fun W h => ((K21.out.stay hx).stay h).cell 5; have fs0 : ∀ W, Ext w4 W → W.cell? ⟨w.heap.size + 1 + 1, 0, none⟩ = some (.int .i64 (bits BinOp.xor IntKind.i64 rc 1)) := fun W h => ((K31.out.stay hx).stay h).cell 0; have fs1 : ∀ W, Ext w4 W → W.cell? ⟨w.heap.size + 1 + 1, 1, none⟩ = some (.int .i64 rv) := fun W h => ((K31.out.stay hx).stay h).cell 1; have fs2 : ∀ W, Ext w4 W → W.cell? ⟨w.heap.size + 1 + 1, 2, none⟩ = some (.string rd) := fun W h => ((K31.out.stay hx).stay h).cell 2; have fs3 : ∀ W, Ext w4 W → W.cell? ⟨w.heap.size + 1 + 1, 3, none⟩ = some (.slice RA rn rcap) := fun W h => ((K31.out.stay hx).stay h).cell 3; have h4 : Ext w4 w4 := Ext.refl _; have X4 : Hid (Ext w w4) := Ext.trans HB1.out hx; clear hx)
      | (go_at_call 21; (with_reducible refine (HS1.out _).mono ?_); rintro e w5 ⟨rfl, hx⟩; have h5 : Ext w4 w5 := Ext.trans h4 hx; clear hx)
      | (go_at_call 22; (with_reducible refine (HSR.out _ (Ext.trans X4.out h5)).mono ?_); rintro e w6 ⟨rfl, hx⟩; have h6 : Ext w4 w6 := Ext.trans h5 hx; clear hx)
      | (go_at_call 21; (with_reducible refine (HS2.out _).mono ?_); rintro e w7 ⟨rfl, hx⟩; have h7 : Ext w4 w7 := Ext.trans h6 hx; clear hx))
    try go_ret
    exact hD.out _ _ ⟨rfl, Ext.trans X4.out h7⟩

set_option maxHeartbeats 8000000 in
theorem reqParts_1 (ac as_ ak ai am : Int) (ad : ByteArray) (rc rv : Int) (rd : ByteArray) (RA : Option Addr) (rcap : Nat) (rl : List Int) (n : Int) (w : World)
    (had : ad.size ≤ maxLen) (hr : rl.length ≤ 9223372036854775807) (hR : Sl i64 w RA rl) (hrd : rd.size ≤ 140737488351232) (g1 : ¬ 50 < rl.length) (g2 : ¬ 300 < ad.size) (hm : wrap64 ((IntKind.u64.wrap n).tmod 6) = 1) : Calls Try.prog 6 #[reqV ac as_ ak ai am ad, repV rc rv rd RA rl.length rcap, .int .i64 n] w fun e w' => e = .returned (.bool true) ∧ Below w.heap.size w w' := by
  refine hide_post fun D hD => ?_
  obtain ⟨w0, hw0⟩ : ∃ w0, w0 = ((((w.alloc (.cells #[.int .i64 ac, .int .i64 as_, .int .i64 ak, .int .i64 ai, .int .i64 am, .string ad] 35)).alloc (.cells #[.int .i64 rc, .int .i64 rv, .string rd, .slice RA rl.length rcap] 37)).alloc (.cells #[.int .i64 ac, .int .i64 (bits BinOp.xor IntKind.i64 as_ 1), .int .i64 ak, .int .i64 ai, .int .i64 am, .string ad] 35)).alloc (.cells #[.int .i64 rc, .int .i64 (bits BinOp.xor IntKind.i64 rv 1), .string rd, .slice RA rl.length rcap] 37)).drew.drew := ⟨_, rfl⟩
  have k0 : Blk w0 w.heap.size 35 #[.int .i64 ac, .int .i64 as_, .int .i64 ak, .int .i64 ai, .int .i64 am, .string ad] := by rw [hw0]; exact (((Blk.new _ _ _).alloc _).alloc _).alloc _
  have k1 : Blk w0 (w.heap.size + 1) 37 #[.int .i64 rc, .int .i64 rv, .string rd, .slice RA rl.length rcap] := by rw [hw0]; exact ((Blk.new' _ _ _ _ (by simp)).alloc _).alloc _
  have k2 : Blk w0 (w.heap.size + 1 + 1) 35 #[.int .i64 ac, .int .i64 (bits BinOp.xor IntKind.i64 as_ 1), .int .i64 ak, .int .i64 ai, .int .i64 am, .string ad] := by rw [hw0]; exact (Blk.new' _ _ _ _ (by simp)).alloc _
  have k3 : Blk w0 (w.heap.size + 1 + 1 + 1) 37 #[.int .i64 rc, .int .i64 (bits BinOp.xor IntKind.i64 rv 1), .string rd, .slice RA rl.length rcap] := by rw [hw0]; exact Blk.new' _ _ _ _ (by simp)
  have HB0 : Hid (Ext w w0) := by show Below _ _ _; rw [hw0]; exact Ext.drewR (Ext.drewR (((((Below.refl _ _).alloc (Nat.le_refl _) _).alloc (by simp) _).alloc (by simp; omega) _).alloc (by simp; omega) _))
  have HW0 := Lib.hid hw0
  have K00 := Lib.hid k0
  have K10 := Lib.hid k1
  have K20 := Lib.hid k2
  have K30 := Lib.hid k3
  clear hw0 k0 k1 k2 k3
  obtain ⟨w1, hw0⟩ : ∃ w0, w0 = ((((w.alloc (.cells #[.int .i64 ac, .int .i64 as_, .int .i64 ak, .int .i64 ai, .int .i64 am, .string ad] 35)).alloc (.cells #[.int .i64 rc, .int .i64 rv, .string rd, .slice RA rl.length rcap] 37)).alloc (.cells #[.int .i64 rc, .int .i64 (bits BinOp.xor IntKind.i64 rv 1), .string rd, .slice RA rl.length rcap] 37)).alloc (.cells #[.int .i64 ac, .int .i64 (bits BinOp.xor IntKind.i64 as_ 1), .int .i64 ak, .int .i64 ai, .int .i64 am, .string ad] 35)).drew.drew := ⟨_, rfl⟩
  have k0 : Blk w1 w.heap.size 35 #[.int .i64 ac, .int .i64 as_, .int .i64 ak, .int .i64 ai, .int .i64 am, .string ad] := by rw [hw0]; exact (((Blk.new _ _ _).alloc _).alloc _).alloc _
  have k1 : Blk w1 (w.heap.size + 1) 37 #[.int .i64 rc, .int .i64 rv, .string rd, .slice RA rl.length rcap] := by rw [hw0]; exact ((Blk.new' _ _ _ _ (by simp)).alloc _).alloc _
  have k2 : Blk w1 (w.heap.size + 1 + 1 + 1) 35 #[.int .i64 ac, .int .i64 (bits BinOp.xor IntKind.i64 as_ 1), .int .i64 ak, .int .i64 ai, .int .i64 am, .string ad] := by rw [hw0]; exact Blk.new' _ _ _ _ (by simp)
  have k3 : Blk w1 (w.heap.size + 1 + 1) 37 #[.int .i64 rc, .int .i64 (bits BinOp.xor IntKind.i64 rv 1), .string rd, .slice RA rl.length rcap] := by rw [hw0]; exact (Blk.new' _ _ _ _ (by simp)).alloc _
  have HB1 : Hid (Ext w w1) := by show Below _ _ _; rw [hw0]; exact Ext.drewR (Ext.drewR (((((Below.refl _ _).alloc (Nat.le_refl _) _).alloc (by simp) _).alloc (by simp; omega) _).alloc (by simp; omega) _))
  have HW1 := Lib.hid hw0
  have K01 := Lib.hid k0
  have K11 := Lib.hid k1
  have K21 := Lib.hid k2
  have K31 := Lib.hid k3
  clear hw0 k0 k1 k2 k3
  have HTO : Hid (∀ W, Calls Try.prog 19 #[] W fun e w' => e = .returned (.bool true) ∧ Ext W w') := told_req
  have HS1 : Hid (∀ W, Calls Try.prog 21 #[.agg #[.int .i64 ac, .int .i64 as_, .int .i64 ak, .int .i64 ai, .int .i64 am, .string ad], .agg #[.int .i64 ac, .int .i64 (bits BinOp.xor IntKind.i64 as_ 1), .int .i64 ak, .int .i64 ai, .int .i64 am, .string ad]] W fun e w' => e = .returned (.bool false) ∧ Ext W w') := fun W => (same_any _ _ _ _ _ _ _ _ _ _ _ _ W).mono fun _ _ ⟨he, h⟩ => ⟨by rw [he, decide_eq_false (by rintro ⟨h0, h1, h2, h3, h4, h5⟩; exact (fun e => xor_ne _ 1 (by decide) e.symm) h1)], h⟩
  have HS2 : Hid (∀ W, Calls Try.prog 21 #[.agg #[.int .i64 ac, .int .i64 (bits BinOp.xor IntKind.i64 as_ 1), .int .i64 ak, .int .i64 ai, .int .i64 am, .string ad], .agg #[.int .i64 ac, .int .i64 (bits BinOp.xor IntKind.i64 as_ 1), .int .i64 ak, .int .i64 ai, .int .i64 am, .string ad]] W fun e w' => e = .returned (.bool true) ∧ Ext W w') := fun W => (same_any _ _ _ _ _ _ _ _ _ _ _ _ W).mono fun _ _ ⟨he, h⟩ => ⟨by rw [he, decide_eq_true (by simp)], h⟩
  have HSR : Hid (∀ W, Ext w W → Calls Try.prog 22 #[.agg #[.int .i64 rc, .int .i64 rv, .string rd, .slice RA rl.length rcap], .agg #[.int .i64 rc, .int .i64 (bits BinOp.xor IntKind.i64 rv 1), .string rd, .slice RA rl.length rcap]] W fun e w' => e = .returned (.bool false) ∧ Ext W w') := fun W hW => (sameReply_any _ _ _ _ _ _ RA RA rl rl rcap rcap W hr hr (hR.stay hW) (hR.stay hW)).mono fun _ _ ⟨he, h⟩ => ⟨by rw [he, decide_eq_false (by rintro ⟨h0, h1, h2, h3⟩; exact (fun e => xor_ne _ 1 (by decide) e.symm) h1)], h⟩
  clear hR
  unfold maxLen at had
  have hr2 : ¬ 9223372036854775807 < rd.size + 1 := by omega
  have ha2 : ¬ 9223372036854775807 < ad.size + 1 := by omega
  generalize rl.length = rn at *
  go_enter Try.func6, Try.ntmps6
  go_wp2_with fail
  go_region
  · go_wp2_with fail
    go_region
    go_wp2_with (first
      | (go_at_call 19; rw [← HW0.out]; (with_reducible refine (HTO.out _).mono ?_); rintro e w4 ⟨rfl, hx⟩; have fa0 : ∀ W, Ext w4 W → W.cell? ⟨w.heap.size, 0, none⟩ = some (.int .i64 ac) := fun W h => ((K00.out.stay hx).stay h).cell 0; have fa1 : ∀ W, Ext w4 W → W.cell? ⟨w.heap.size, 1, none⟩ = some (.int .i64 as_) := fun W h => ((K00.out.stay hx).stay h).cell 1; have fa2 : ∀ W, Ext w4 W → W.cell? ⟨w.heap.size, 2, none⟩ = some (.int .i64 ak) := fun W h => ((K00.out.stay hx).stay h).cell 2; have fa3 : ∀ W, Ext w4 W → W.cell? ⟨w.heap.size, 3, none⟩ = some (.int .i64 ai) := fun W h => ((K00.out.stay hx).stay h).cell 3; have fa4 : ∀ W, Ext w4 W → W.cell? ⟨w.heap.size, 4, none⟩ = some (.int .i64 am) := fun W h => ((K00.out.stay hx).stay h).cell 4; have fa5 : ∀ W, Ext w4 W → W.cell? ⟨w.heap.size, 5, none⟩ = some (.string ad) := fun W h => ((K00.out.stay hx).stay h).cell 5; have fr0 : ∀ W, Ext w4 W → W.cell? ⟨w.heap.size + 1, 0, none⟩ = some (.int .i64 rc) := fun W h => ((K10.out.stay hx).stay h).cell 0; have fr1 : ∀ W, Ext w4 W → W.cell? ⟨w.heap.size + 1, 1, none⟩ = some (.int .i64 rv) := fun W h => ((K10.out.stay hx).stay h).cell 1; have fr2 : ∀ W, Ext w4 W → W.cell? ⟨w.heap.size + 1, 2, none⟩ = some (.string rd) := fun W h => ((K10.out.stay hx).stay h).cell 2; have fr3 : ∀ W, Ext w4 W → W.cell? ⟨w.heap.size + 1, 3, none⟩ = some (.slice RA rn rcap) := fun W h => ((K10.out.stay hx).stay h).cell 3; have fb0 : ∀ W, Ext w4 W → W.cell? ⟨w.heap.size + 1 + 1, 0, none⟩ = some (.int .i64 ac) := fun W h => ((K20.out.stay hx).stay h).cell 0; have fb1 : ∀ W, Ext w4 W → W.cell? ⟨w.heap.size + 1 + 1, 1, none⟩ = some (.int .i64 (bits BinOp.xor IntKind.i64 as_ 1)) := fun W h => ((K20.out.stay hx).stay h).cell 1; have fb2 : ∀ W, Ext w4 W → W.cell? ⟨w.heap.size + 1 + 1, 2, none⟩ = some (.int .i64 ak) := fun W h => ((K20.out.stay hx).stay h).cell 2; have fb3 : ∀ W, Ext w4 W → W.cell? ⟨w.heap.size + 1 + 1, 3, none⟩ = some (.int .i64 ai) := fun W h => ((K20.out.stay hx).stay h).cell 3; have fb4 : ∀ W, Ext w4 W → W.cell? ⟨w.heap.size + 1 + 1, 4, none⟩ = some (.int .i64 am) := fun W h => ((K20.out.stay hx).stay h).cell 4; have fb5 : ∀ W, Ext w4 W → W.cell? ⟨w.heap.size + 1 + 1, 5, none⟩ = some (.string ad) := fun W h => ((K20.out.stay hx).stay h).cell 5; have fs0 : ∀ W, Ext w4 W → W.cell? ⟨w.heap.size + 1 + 1 + 1, 0, none⟩ = some (.int .i64 rc) := fun W h => ((K30.out.stay hx).stay h).cell 0; have fs1 : ∀ W, Ext w4 W → W.cell? ⟨w.heap.size + 1 + 1 + 1, 1, none⟩ = some (.int .i64 (bits BinOp.xor IntKind.i64 rv 1)) := fun W h => ((K30.out.stay hx).stay h).cell 1; have fs2 : ∀ W, Ext w4 W → W.cell? ⟨w.heap.size + 1 + 1 + 1, 2, none⟩ = some (.string rd) := fun W h => ((K30.out.stay hx).stay h).cell 2; have fs3 : ∀ W, Ext w4 W → W.cell? ⟨w.heap.size + 1 + 1 + 1, 3, none⟩ = some (.slice RA rn rcap) := fun W h => ((K30.out.stay hx).stay h).cell 3; have h4 : Ext w4 w4 := Ext.refl _; have X4 : Hid (Ext w w4) := Ext.trans HB0.out hx; clear hx)
      | (go_at_call 21; (with_reducible refine (HS1.out _).mono ?_); rintro e w5 ⟨rfl, hx⟩; have h5 : Ext w4 w5 := Ext.trans h4 hx; clear hx)
      | (go_at_call 22; (with_reducible refine (HSR.out _ (Ext.trans X4.out h5)).mono ?_); rintro e w6 ⟨rfl, hx⟩; have h6 : Ext w4 w6 := Ext.trans h5 hx; clear hx)
      | (go_at_call 21; (with_reducible refine (HS2.out _).mono ?_); rintro e w7 ⟨rfl, hx⟩; have h7 : Ext w4 w7 := Ext.trans h6 hx; clear hx))
    try go_ret
    exact hD.out _ _ ⟨rfl, Ext.trans X4.out h7⟩
  · go_wp2_with fail
    go_region
    go_wp2_with (first
      | (go_at_call 19; rw [← HW1.out]; (with_reducible refine (HTO.out _).mono ?_); rintro e w4 ⟨rfl, hx⟩; have fa0 : ∀ W, Ext w4 W → W.cell? ⟨w.heap.size, 0, none⟩ = some (.int .i64 ac) := fun W h => ((K01.out.stay hx).stay h).cell 0; have fa1 : ∀ W, Ext w4 W → W.cell? ⟨w.heap.size, 1, none⟩ = some (.int .i64 as_) := fun W h => ((K01.out.stay hx).stay h).cell 1; have fa2 : ∀ W, Ext w4 W → W.cell? ⟨w.heap.size, 2, none⟩ = some (.int .i64 ak) := fun W h => ((K01.out.stay hx).stay h).cell 2; have fa3 : ∀ W, Ext w4 W → W.cell? ⟨w.heap.size, 3, none⟩ = some (.int .i64 ai) := fun W h => ((K01.out.stay hx).stay h).cell 3; have fa4 : ∀ W, Ext w4 W → W.cell? ⟨w.heap.size, 4, none⟩ = some (.int .i64 am) := fun W h => ((K01.out.stay hx).stay h).cell 4; have fa5 : ∀ W, Ext w4 W → W.cell? ⟨w.heap.size, 5, none⟩ = some (.string ad) := fun W h => ((K01.out.stay hx).stay h).cell 5; have fr0 : ∀ W, Ext w4 W → W.cell? ⟨w.heap.size + 1, 0, none⟩ = some (.int .i64 rc) := fun W h => ((K11.out.stay hx).stay h).cell 0; have fr1 : ∀ W, Ext w4 W → W.cell? ⟨w.heap.size + 1, 1, none⟩ = some (.int .i64 rv) := fun W h => ((K11.out.stay hx).stay h).cell 1; have fr2 : ∀ W, Ext w4 W → W.cell? ⟨w.heap.size + 1, 2, none⟩ = some (.string rd) := fun W h => ((K11.out.stay hx).stay h).cell 2; have fr3 : ∀ W, Ext w4 W → W.cell? ⟨w.heap.size + 1, 3, none⟩ = some (.slice RA rn rcap) := fun W h => ((K11.out.stay hx).stay h).cell 3; have fb0 : ∀ W, Ext w4 W → W.cell? ⟨w.heap.size + 1 + 1 + 1, 0, none⟩ = some (.int .i64 ac) := fun W h => ((K21.out.stay hx).stay h).cell 0; have fb1 : ∀ W, Ext w4 W → W.cell? ⟨w.heap.size + 1 + 1 + 1, 1, none⟩ = some (.int .i64 (bits BinOp.xor IntKind.i64 as_ 1)) := fun W h => ((K21.out.stay hx).stay h).cell 1; have fb2 : ∀ W, Ext w4 W → W.cell? ⟨w.heap.size + 1 + 1 + 1, 2, none⟩ = some (.int .i64 ak) := fun W h => ((K21.out.stay hx).stay h).cell 2; have fb3 : ∀ W, Ext w4 W → W.cell? ⟨w.heap.size + 1 + 1 + 1, 3, none⟩ = some (.int .i64 ai) := fun W h => ((K21.out.stay hx).stay h).cell 3; have fb4 : ∀ W, Ext w4 W → W.cell? ⟨w.heap.size + 1 + 1 + 1, 4, none⟩ = some (.int .i64 am) := fun W h => ((K21.out.stay hx).stay h).cell 4; have fb5 : ∀ W, Ext w4 W → W.cell? ⟨w.heap.size + 1 + 1 + 1, 5, none⟩ = some (.string ad) := fun W h => ((K21.out.stay hx).stay h).cell 5; have fs0 : ∀ W, Ext w4 W → W.cell? ⟨w.heap.size + 1 + 1, 0, none⟩ = some (.int .i64 rc) := fun W h => ((K31.out.stay hx).stay h).cell 0; have fs1 : ∀ W, Ext w4 W → W.cell? ⟨w.heap.size + 1 + 1, 1, none⟩ = some (.int .i64 (bits BinOp.xor IntKind.i64 rv 1)) := fun W h => ((K31.out.stay hx).stay h).cell 1; have fs2 : ∀ W, Ext w4 W → W.cell? ⟨w.heap.size + 1 + 1, 2, none⟩ = some (.string rd) := fun W h => ((K31.out.stay hx).stay h).cell 2; have fs3 : ∀ W, Ext w4 W → W.cell? ⟨w.heap.size + 1 + 1, 3, none⟩ = some (.slice RA rn rcap) := fun W h => ((K31.out.stay hx).stay h).cell 3; have h4 : Ext w4 w4 := Ext.refl _; have X4 : Hid (Ext w w4) := Ext.trans HB1.out hx; clear hx)
      | (go_at_call 21; (with_reducible refine (HS1.out _).mono ?_); rintro e w5 ⟨rfl, hx⟩; have h5 : Ext w4 w5 := Ext.trans h4 hx; clear hx)
      | (go_at_call 22; (with_reducible refine (HSR.out _ (Ext.trans X4.out h5)).mono ?_); rintro e w6 ⟨rfl, hx⟩; have h6 : Ext w4 w6 := Ext.trans h5 hx; clear hx)
      | (go_at_call 21; (with_reducible refine (HS2.out _).mono ?_); rintro e w7 ⟨rfl, hx⟩; have h7 : Ext w4 w7 := Ext.trans h6 hx; clear hx))
    try go_ret
    exact hD.out _ _ ⟨rfl, Ext.trans X4.out h7⟩

set_option maxHeartbeats 8000000 in
theorem reqParts_2 (ac as_ ak ai am : Int) (ad : ByteArray) (rc rv : Int) (rd : ByteArray) (RA : Option Addr) (rcap : Nat) (rl : List Int) (n : Int) (w : World)
    (had : ad.size ≤ maxLen) (hr : rl.length ≤ 9223372036854775807) (hR : Sl i64 w RA rl) (hrd : rd.size ≤ 140737488351232) (g1 : ¬ 50 < rl.length) (g2 : ¬ 300 < ad.size) (hm : wrap64 ((IntKind.u64.wrap n).tmod 6) = 2) : Calls Try.prog 6 #[reqV ac as_ ak ai am ad, repV rc rv rd RA rl.length rcap, .int .i64 n] w fun e w' => e = .returned (.bool true) ∧ Below w.heap.size w w' := by
  refine hide_post fun D hD => ?_
  obtain ⟨w0, hw0⟩ : ∃ w0, w0 = ((((w.alloc (.cells #[.int .i64 ac, .int .i64 as_, .int .i64 ak, .int .i64 ai, .int .i64 am, .string ad] 35)).alloc (.cells #[.int .i64 rc, .int .i64 rv, .string rd, .slice RA rl.length rcap] 37)).alloc (.cells #[.int .i64 ac, .int .i64 as_, .int .i64 (bits BinOp.xor IntKind.i64 ak 1), .int .i64 ai, .int .i64 am, .string ad] 35)).alloc (.cells #[.int .i64 rc, .int .i64 rv, .string (rd ++ { data := #[120] }), .slice RA rl.length rcap] 37)).drew.drew := ⟨_, rfl⟩
  have k0 : Blk w0 w.heap.size 35 #[.int .i64 ac, .int .i64 as_, .int .i64 ak, .int .i64 ai, .int .i64 am, .string ad] := by rw [hw0]; exact (((Blk.new _ _ _).alloc _).alloc _).alloc _
  have k1 : Blk w0 (w.heap.size + 1) 37 #[.int .i64 rc, .int .i64 rv, .string rd, .slice RA rl.length rcap] := by rw [hw0]; exact ((Blk.new' _ _ _ _ (by simp)).alloc _).alloc _
  have k2 : Blk w0 (w.heap.size + 1 + 1) 35 #[.int .i64 ac, .int .i64 as_, .int .i64 (bits BinOp.xor IntKind.i64 ak 1), .int .i64 ai, .int .i64 am, .string ad] := by rw [hw0]; exact (Blk.new' _ _ _ _ (by simp)).alloc _
  have k3 : Blk w0 (w.heap.size + 1 + 1 + 1) 37 #[.int .i64 rc, .int .i64 rv, .string (rd ++ { data := #[120] }), .slice RA rl.length rcap] := by rw [hw0]; exact Blk.new' _ _ _ _ (by simp)
  have HB0 : Hid (Ext w w0) := by show Below _ _ _; rw [hw0]; exact Ext.drewR (Ext.drewR (((((Below.refl _ _).alloc (Nat.le_refl _) _).alloc (by simp) _).alloc (by simp; omega) _).alloc (by simp; omega) _))
  have HW0 := Lib.hid hw0
  have K00 := Lib.hid k0
  have K10 := Lib.hid k1
  have K20 := Lib.hid k2
  have K30 := Lib.hid k3
  clear hw0 k0 k1 k2 k3
  obtain ⟨w1, hw0⟩ : ∃ w0, w0 = ((((w.alloc (.cells #[.int .i64 ac, .int .i64 as_, .int .i64 ak, .int .i64 ai, .int .i64 am, .string ad] 35)).alloc (.cells #[.int .i64 rc, .int .i64 rv, .string rd, .slice RA rl.length rcap] 37)).alloc (.cells #[.int .i64 rc, .int .i64 rv, .string (rd ++ { data := #[120] }), .slice RA rl.length rcap] 37)).alloc (.cells #[.int .i64 ac, .int .i64 as_, .int .i64 (bits BinOp.xor IntKind.i64 ak 1), .int .i64 ai, .int .i64 am, .string ad] 35)).drew.drew := ⟨_, rfl⟩
  have k0 : Blk w1 w.heap.size 35 #[.int .i64 ac, .int .i64 as_, .int .i64 ak, .int .i64 ai, .int .i64 am, .string ad] := by rw [hw0]; exact (((Blk.new _ _ _).alloc _).alloc _).alloc _
  have k1 : Blk w1 (w.heap.size + 1) 37 #[.int .i64 rc, .int .i64 rv, .string rd, .slice RA rl.length rcap] := by rw [hw0]; exact ((Blk.new' _ _ _ _ (by simp)).alloc _).alloc _
  have k2 : Blk w1 (w.heap.size + 1 + 1 + 1) 35 #[.int .i64 ac, .int .i64 as_, .int .i64 (bits BinOp.xor IntKind.i64 ak 1), .int .i64 ai, .int .i64 am, .string ad] := by rw [hw0]; exact Blk.new' _ _ _ _ (by simp)
  have k3 : Blk w1 (w.heap.size + 1 + 1) 37 #[.int .i64 rc, .int .i64 rv, .string (rd ++ { data := #[120] }), .slice RA rl.length rcap] := by rw [hw0]; exact (Blk.new' _ _ _ _ (by simp)).alloc _
  have HB1 : Hid (Ext w w1) := by show Below _ _ _; rw [hw0]; exact Ext.drewR (Ext.drewR (((((Below.refl _ _).alloc (Nat.le_refl _) _).alloc (by simp) _).alloc (by simp; omega) _).alloc (by simp; omega) _))
  have HW1 := Lib.hid hw0
  have K01 := Lib.hid k0
  have K11 := Lib.hid k1
  have K21 := Lib.hid k2
  have K31 := Lib.hid k3
  clear hw0 k0 k1 k2 k3
  have HTO : Hid (∀ W, Calls Try.prog 19 #[] W fun e w' => e = .returned (.bool true) ∧ Ext W w') := told_req
  have HS1 : Hid (∀ W, Calls Try.prog 21 #[.agg #[.int .i64 ac, .int .i64 as_, .int .i64 ak, .int .i64 ai, .int .i64 am, .string ad], .agg #[.int .i64 ac, .int .i64 as_, .int .i64 (bits BinOp.xor IntKind.i64 ak 1), .int .i64 ai, .int .i64 am, .string ad]] W fun e w' => e = .returned (.bool false) ∧ Ext W w') := fun W => (same_any _ _ _ _ _ _ _ _ _ _ _ _ W).mono fun _ _ ⟨he, h⟩ => ⟨by rw [he, decide_eq_false (by rintro ⟨h0, h1, h2, h3, h4, h5⟩; exact (fun e => xor_ne _ 1 (by decide) e.symm) h2)], h⟩
  have HS2 : Hid (∀ W, Calls Try.prog 21 #[.agg #[.int .i64 ac, .int .i64 as_, .int .i64 (bits BinOp.xor IntKind.i64 ak 1), .int .i64 ai, .int .i64 am, .string ad], .agg #[.int .i64 ac, .int .i64 as_, .int .i64 (bits BinOp.xor IntKind.i64 ak 1), .int .i64 ai, .int .i64 am, .string ad]] W fun e w' => e = .returned (.bool true) ∧ Ext W w') := fun W => (same_any _ _ _ _ _ _ _ _ _ _ _ _ W).mono fun _ _ ⟨he, h⟩ => ⟨by rw [he, decide_eq_true (by simp)], h⟩
  have HSR : Hid (∀ W, Ext w W → Calls Try.prog 22 #[.agg #[.int .i64 rc, .int .i64 rv, .string rd, .slice RA rl.length rcap], .agg #[.int .i64 rc, .int .i64 rv, .string (rd ++ { data := #[120] }), .slice RA rl.length rcap]] W fun e w' => e = .returned (.bool false) ∧ Ext W w') := fun W hW => (sameReply_any _ _ _ _ _ _ RA RA rl rl rcap rcap W hr hr (hR.stay hW) (hR.stay hW)).mono fun _ _ ⟨he, h⟩ => ⟨by rw [he, decide_eq_false (by rintro ⟨h0, h1, h2, h3⟩; exact (app_ne rd) h2)], h⟩
  clear hR
  unfold maxLen at had
  have hr2 : ¬ 9223372036854775807 < rd.size + 1 := by omega
  have ha2 : ¬ 9223372036854775807 < ad.size + 1 := by omega
  generalize rl.length = rn at *
  go_enter Try.func6, Try.ntmps6
  go_wp2_with fail
  go_region
  · go_wp2_with fail
    go_region
    go_wp2_with (first
      | (go_at_call 19; rw [← HW0.out]; (with_reducible refine (HTO.out _).mono ?_); rintro e w4 ⟨rfl, hx⟩; have fa0 : ∀ W, Ext w4 W → W.cell? ⟨w.heap.size, 0, none⟩ = some (.int .i64 ac) := fun W h => ((K00.out.stay hx).stay h).cell 0; have fa1 : ∀ W, Ext w4 W → W.cell? ⟨w.heap.size, 1, none⟩ = some (.int .i64 as_) := fun W h => ((K00.out.stay hx).stay h).cell 1; have fa2 : ∀ W, Ext w4 W → W.cell? ⟨w.heap.size, 2, none⟩ = some (.int .i64 ak) := fun W h => ((K00.out.stay hx).stay h).cell 2; have fa3 : ∀ W, Ext w4 W → W.cell? ⟨w.heap.size, 3, none⟩ = some (.int .i64 ai) := fun W h => ((K00.out.stay hx).stay h).cell 3; have fa4 : ∀ W, Ext w4 W → W.cell? ⟨w.heap.size, 4, none⟩ = some (.int .i64 am) := fun W h => ((K00.out.stay hx).stay h).cell 4; have fa5 : ∀ W, Ext w4 W → W.cell? ⟨w.heap.size, 5, none⟩ = some (.string ad) := fun W h => ((K00.out.stay hx).stay h).cell 5; have fr0 : ∀ W, Ext w4 W → W.cell? ⟨w.heap.size + 1, 0, none⟩ = some (.int .i64 rc) := fun W h => ((K10.out.stay hx).stay h).cell 0; have fr1 : ∀ W, Ext w4 W → W.cell? ⟨w.heap.size + 1, 1, none⟩ = some (.int .i64 rv) := fun W h => ((K10.out.stay hx).stay h).cell 1; have fr2 : ∀ W, Ext w4 W → W.cell? ⟨w.heap.size + 1, 2, none⟩ = some (.string rd) := fun W h => ((K10.out.stay hx).stay h).cell 2; have fr3 : ∀ W, Ext w4 W → W.cell? ⟨w.heap.size + 1, 3, none⟩ = some (.slice RA rn rcap) := fun W h => ((K10.out.stay hx).stay h).cell 3; have fb0 : ∀ W, Ext w4 W → W.cell? ⟨w.heap.size + 1 + 1, 0, none⟩ = some (.int .i64 ac) := fun W h => ((K20.out.stay hx).stay h).cell 0; have fb1 : ∀ W, Ext w4 W → W.cell? ⟨w.heap.size + 1 + 1, 1, none⟩ = some (.int .i64 as_) := fun W h => ((K20.out.stay hx).stay h).cell 1; have fb2 : ∀ W, Ext w4 W → W.cell? ⟨w.heap.size + 1 + 1, 2, none⟩ = some (.int .i64 (bits BinOp.xor IntKind.i64 ak 1)) := fun W h => ((K20.out.stay hx).stay h).cell 2; have fb3 : ∀ W, Ext w4 W → W.cell? ⟨w.heap.size + 1 + 1, 3, none⟩ = some (.int .i64 ai) := fun W h => ((K20.out.stay hx).stay h).cell 3; have fb4 : ∀ W, Ext w4 W → W.cell? ⟨w.heap.size + 1 + 1, 4, none⟩ = some (.int .i64 am) := fun W h => ((K20.out.stay hx).stay h).cell 4; have fb5 : ∀ W, Ext w4 W → W.cell? ⟨w.heap.size + 1 + 1, 5, none⟩ = some (.string ad) := fun W h => ((K20.out.stay hx).stay h).cell 5; have fs0 : ∀ W, Ext w4 W → W.cell? ⟨w.heap.size + 1 + 1 + 1, 0, none⟩ = some (.int .i64 rc) := fun W h => ((K30.out.stay hx).stay h).cell 0; have fs1 : ∀ W, Ext w4 W → W.cell? ⟨w.heap.size + 1 + 1 + 1, 1, none⟩ = some (.int .i64 rv) := fun W h => ((K30.out.stay hx).stay h).cell 1; have fs2 : ∀ W, Ext w4 W → W.cell? ⟨w.heap.size + 1 + 1 + 1, 2, none⟩ = some (.string (rd ++ { data := #[120] })) := fun W h => ((K30.out.stay hx).stay h).cell 2; have fs3 : ∀ W, Ext w4 W → W.cell? ⟨w.heap.size + 1 + 1 + 1, 3, none⟩ = some (.slice RA rn rcap) := fun W h => ((K30.out.stay hx).stay h).cell 3; have h4 : Ext w4 w4 := Ext.refl _; have X4 : Hid (Ext w w4) := Ext.trans HB0.out hx; clear hx)
      | (go_at_call 21; (with_reducible refine (HS1.out _).mono ?_); rintro e w5 ⟨rfl, hx⟩; have h5 : Ext w4 w5 := Ext.trans h4 hx; clear hx)
      | (go_at_call 22; (with_reducible refine (HSR.out _ (Ext.trans X4.out h5)).mono ?_); rintro e w6 ⟨rfl, hx⟩; have h6 : Ext w4 w6 := Ext.trans h5 hx; clear hx)
      | (go_at_call 21; (with_reducible refine (HS2.out _).mono ?_); rintro e w7 ⟨rfl, hx⟩; have h7 : Ext w4 w7 := Ext.trans h6 hx; clear hx))
    try go_ret
    exact hD.out _ _ ⟨rfl, Ext.trans X4.out h7⟩
  · go_wp2_with fail
    go_region
    go_wp2_with (first
      | (go_at_call 19; rw [← HW1.out]; (with_reducible refine (HTO.out _).mono ?_); rintro e w4 ⟨rfl, hx⟩; have fa0 : ∀ W, Ext w4 W → W.cell? ⟨w.heap.size, 0, none⟩ = some (.int .i64 ac) := fun W h => ((K01.out.stay hx).stay h).cell 0; have fa1 : ∀ W, Ext w4 W → W.cell? ⟨w.heap.size, 1, none⟩ = some (.int .i64 as_) := fun W h => ((K01.out.stay hx).stay h).cell 1; have fa2 : ∀ W, Ext w4 W → W.cell? ⟨w.heap.size, 2, none⟩ = some (.int .i64 ak) := fun W h => ((K01.out.stay hx).stay h).cell 2; have fa3 : ∀ W, Ext w4 W → W.cell? ⟨w.heap.size, 3, none⟩ = some (.int .i64 ai) := fun W h => ((K01.out.stay hx).stay h).cell 3; have fa4 : ∀ W, Ext w4 W → W.cell? ⟨w.heap.size, 4, none⟩ = some (.int .i64 am) := fun W h => ((K01.out.stay hx).stay h).cell 4; have fa5 : ∀ W, Ext w4 W → W.cell? ⟨w.heap.size, 5, none⟩ = some (.string ad) := fun W h => ((K01.out.stay hx).stay h).cell 5; have fr0 : ∀ W, Ext w4 W → W.cell? ⟨w.heap.size + 1, 0, none⟩ = some (.int .i64 rc) := fun W h => ((K11.out.stay hx).stay h).cell 0; have fr1 : ∀ W, Ext w4 W → W.cell? ⟨w.heap.size + 1, 1, none⟩ = some (.int .i64 rv) := fun W h => ((K11.out.stay hx).stay h).cell 1; have fr2 : ∀ W, Ext w4 W → W.cell? ⟨w.heap.size + 1, 2, none⟩ = some (.string rd) := fun W h => ((K11.out.stay hx).stay h).cell 2; have fr3 : ∀ W, Ext w4 W → W.cell? ⟨w.heap.size + 1, 3, none⟩ = some (.slice RA rn rcap) := fun W h => ((K11.out.stay hx).stay h).cell 3; have fb0 : ∀ W, Ext w4 W → W.cell? ⟨w.heap.size + 1 + 1 + 1, 0, none⟩ = some (.int .i64 ac) := fun W h => ((K21.out.stay hx).stay h).cell 0; have fb1 : ∀ W, Ext w4 W → W.cell? ⟨w.heap.size + 1 + 1 + 1, 1, none⟩ = some (.int .i64 as_) := fun W h => ((K21.out.stay hx).stay h).cell 1; have fb2 : ∀ W, Ext w4 W → W.cell? ⟨w.heap.size + 1 + 1 + 1, 2, none⟩ = some (.int .i64 (bits BinOp.xor IntKind.i64 ak 1)) := fun W h => ((K21.out.stay hx).stay h).cell 2; have fb3 : ∀ W, Ext w4 W → W.cell? ⟨w.heap.size + 1 + 1 + 1, 3, none⟩ = some (.int .i64 ai) := fun W h => ((K21.out.stay hx).stay h).cell 3; have fb4 : ∀ W, Ext w4 W → W.cell? ⟨w.heap.size + 1 + 1 + 1, 4, none⟩ = some (.int .i64 am) := fun W h => ((K21.out.stay hx).stay h).cell 4; have fb5 : ∀ W, Ext w4 W → W.cell? ⟨w.heap.size + 1 + 1 + 1, 5, none⟩ = some (.string ad) := fun W h => ((K21.out.stay hx).stay h).cell 5; have fs0 : ∀ W, Ext w4 W → W.cell? ⟨w.heap.size + 1 + 1, 0, none⟩ = some (.int .i64 rc) := fun W h => ((K31.out.stay hx).stay h).cell 0; have fs1 : ∀ W, Ext w4 W → W.cell? ⟨w.heap.size + 1 + 1, 1, none⟩ = some (.int .i64 rv) := fun W h => ((K31.out.stay hx).stay h).cell 1; have fs2 : ∀ W, Ext w4 W → W.cell? ⟨w.heap.size + 1 + 1, 2, none⟩ = some (.string (rd ++ { data := #[120] })) := fun W h => ((K31.out.stay hx).stay h).cell 2; have fs3 : ∀ W, Ext w4 W → W.cell? ⟨w.heap.size + 1 + 1, 3, none⟩ = some (.slice RA rn rcap) := fun W h => ((K31.out.stay hx).stay h).cell 3; have h4 : Ext w4 w4 := Ext.refl _; have X4 : Hid (Ext w w4) := Ext.trans HB1.out hx; clear hx)
      | (go_at_call 21; (with_reducible refine (HS1.out _).mono ?_); rintro e w5 ⟨rfl, hx⟩; have h5 : Ext w4 w5 := Ext.trans h4 hx; clear hx)
      | (go_at_call 22; (with_reducible refine (HSR.out _ (Ext.trans X4.out h5)).mono ?_); rintro e w6 ⟨rfl, hx⟩; have h6 : Ext w4 w6 := Ext.trans h5 hx; clear hx)
      | (go_at_call 21; (with_reducible refine (HS2.out _).mono ?_); rintro e w7 ⟨rfl, hx⟩; have h7 : Ext w4 w7 := Ext.trans h6 hx; clear hx))
    try go_ret
    exact hD.out _ _ ⟨rfl, Ext.trans X4.out h7⟩

set_option maxHeartbeats 8000000 in
theorem reqParts_4 (ac as_ ak ai am : Int) (ad : ByteArray) (rc rv : Int) (rd : ByteArray) (RA : Option Addr) (rcap : Nat) (rl : List Int) (n : Int) (w : World)
    (had : ad.size ≤ maxLen) (hr : rl.length ≤ 9223372036854775807) (hR : Sl i64 w RA rl) (hrd : rd.size ≤ 140737488351232) (g1 : ¬ 50 < rl.length) (g2 : ¬ 300 < ad.size) (hm : wrap64 ((IntKind.u64.wrap n).tmod 6) = 4) : Calls Try.prog 6 #[reqV ac as_ ak ai am ad, repV rc rv rd RA rl.length rcap, .int .i64 n] w fun e w' => e = .returned (.bool true) ∧ Below w.heap.size w w' := by
  refine hide_post fun D hD => ?_
  obtain ⟨w0, hw0⟩ : ∃ w0, w0 = ((((w.alloc (.cells #[.int .i64 ac, .int .i64 as_, .int .i64 ak, .int .i64 ai, .int .i64 am, .string ad] 35)).alloc (.cells #[.int .i64 rc, .int .i64 rv, .string rd, .slice RA rl.length rcap] 37)).alloc (.cells #[.int .i64 ac, .int .i64 as_, .int .i64 ak, .int .i64 ai, .int .i64 (bits BinOp.xor IntKind.i64 am 1), .string ad] 35)).alloc (.cells #[.int .i64 (bits BinOp.xor IntKind.i64 rc 2), .int .i64 rv, .string rd, .slice RA rl.length rcap] 37)).drew.drew := ⟨_, rfl⟩
  have k0 : Blk w0 w.heap.size 35 #[.int .i64 ac, .int .i64 as_, .int .i64 ak, .int .i64 ai, .int .i64 am, .string ad] := by rw [hw0]; exact (((Blk.new _ _ _).alloc _).alloc _).alloc _
  have k1 : Blk w0 (w.heap.size + 1) 37 #[.int .i64 rc, .int .i64 rv, .string rd, .slice RA rl.length rcap] := by rw [hw0]; exact ((Blk.new' _ _ _ _ (by simp)).alloc _).alloc _
  have k2 : Blk w0 (w.heap.size + 1 + 1) 35 #[.int .i64 ac, .int .i64 as_, .int .i64 ak, .int .i64 ai, .int .i64 (bits BinOp.xor IntKind.i64 am 1), .string ad] := by rw [hw0]; exact (Blk.new' _ _ _ _ (by simp)).alloc _
  have k3 : Blk w0 (w.heap.size + 1 + 1 + 1) 37 #[.int .i64 (bits BinOp.xor IntKind.i64 rc 2), .int .i64 rv, .string rd, .slice RA rl.length rcap] := by rw [hw0]; exact Blk.new' _ _ _ _ (by simp)
  have HB0 : Hid (Ext w w0) := by show Below _ _ _; rw [hw0]; exact Ext.drewR (Ext.drewR (((((Below.refl _ _).alloc (Nat.le_refl _) _).alloc (by simp) _).alloc (by simp; omega) _).alloc (by simp; omega) _))
  have HW0 := Lib.hid hw0
  have K00 := Lib.hid k0
  have K10 := Lib.hid k1
  have K20 := Lib.hid k2
  have K30 := Lib.hid k3
  clear hw0 k0 k1 k2 k3
  obtain ⟨w1, hw0⟩ : ∃ w0, w0 = ((((w.alloc (.cells #[.int .i64 ac, .int .i64 as_, .int .i64 ak, .int .i64 ai, .int .i64 am, .string ad] 35)).alloc (.cells #[.int .i64 rc, .int .i64 rv, .string rd, .slice RA rl.length rcap] 37)).alloc (.cells #[.int .i64 (bits BinOp.xor IntKind.i64 rc 2), .int .i64 rv, .string rd, .slice RA rl.length rcap] 37)).alloc (.cells #[.int .i64 ac, .int .i64 as_, .int .i64 ak, .int .i64 ai, .int .i64 (bits BinOp.xor IntKind.i64 am 1), .string ad] 35)).drew.drew := ⟨_, rfl⟩
  have k0 : Blk w1 w.heap.size 35 #[.int .i64 ac, .int .i64 as_, .int .i64 ak, .int .i64 ai, .int .i64 am, .string ad] := by rw [hw0]; exact (((Blk.new _ _ _).alloc _).alloc _).alloc _
  have k1 : Blk w1 (w.heap.size + 1) 37 #[.int .i64 rc, .int .i64 rv, .string rd, .slice RA rl.length rcap] := by rw [hw0]; exact ((Blk.new' _ _ _ _ (by simp)).alloc _).alloc _
  have k2 : Blk w1 (w.heap.size + 1 + 1 + 1) 35 #[.int .i64 ac, .int .i64 as_, .int .i64 ak, .int .i64 ai, .int .i64 (bits BinOp.xor IntKind.i64 am 1), .string ad] := by rw [hw0]; exact Blk.new' _ _ _ _ (by simp)
  have k3 : Blk w1 (w.heap.size + 1 + 1) 37 #[.int .i64 (bits BinOp.xor IntKind.i64 rc 2), .int .i64 rv, .string rd, .slice RA rl.length rcap] := by rw [hw0]; exact (Blk.new' _ _ _ _ (by simp)).alloc _
  have HB1 : Hid (Ext w w1) := by show Below _ _ _; rw [hw0]; exact Ext.drewR (Ext.drewR (((((Below.refl _ _).alloc (Nat.le_refl _) _).alloc (by simp) _).alloc (by simp; omega) _).alloc (by simp; omega) _))
  have HW1 := Lib.hid hw0
  have K01 := Lib.hid k0
  have K11 := Lib.hid k1
  have K21 := Lib.hid k2
  have K31 := Lib.hid k3
  clear hw0 k0 k1 k2 k3
  have HTO : Hid (∀ W, Calls Try.prog 19 #[] W fun e w' => e = .returned (.bool true) ∧ Ext W w') := told_req
  have HS1 : Hid (∀ W, Calls Try.prog 21 #[.agg #[.int .i64 ac, .int .i64 as_, .int .i64 ak, .int .i64 ai, .int .i64 am, .string ad], .agg #[.int .i64 ac, .int .i64 as_, .int .i64 ak, .int .i64 ai, .int .i64 (bits BinOp.xor IntKind.i64 am 1), .string ad]] W fun e w' => e = .returned (.bool false) ∧ Ext W w') := fun W => (same_any _ _ _ _ _ _ _ _ _ _ _ _ W).mono fun _ _ ⟨he, h⟩ => ⟨by rw [he, decide_eq_false (by rintro ⟨h0, h1, h2, h3, h4, h5⟩; exact (fun e => xor_ne _ 1 (by decide) e.symm) h4)], h⟩
  have HS2 : Hid (∀ W, Calls Try.prog 21 #[.agg #[.int .i64 ac, .int .i64 as_, .int .i64 ak, .int .i64 ai, .int .i64 (bits BinOp.xor IntKind.i64 am 1), .string ad], .agg #[.int .i64 ac, .int .i64 as_, .int .i64 ak, .int .i64 ai, .int .i64 (bits BinOp.xor IntKind.i64 am 1), .string ad]] W fun e w' => e = .returned (.bool true) ∧ Ext W w') := fun W => (same_any _ _ _ _ _ _ _ _ _ _ _ _ W).mono fun _ _ ⟨he, h⟩ => ⟨by rw [he, decide_eq_true (by simp)], h⟩
  have HSR : Hid (∀ W, Ext w W → Calls Try.prog 22 #[.agg #[.int .i64 rc, .int .i64 rv, .string rd, .slice RA rl.length rcap], .agg #[.int .i64 (bits BinOp.xor IntKind.i64 rc 2), .int .i64 rv, .string rd, .slice RA rl.length rcap]] W fun e w' => e = .returned (.bool false) ∧ Ext W w') := fun W hW => (sameReply_any _ _ _ _ _ _ RA RA rl rl rcap rcap W hr hr (hR.stay hW) (hR.stay hW)).mono fun _ _ ⟨he, h⟩ => ⟨by rw [he, decide_eq_false (by rintro ⟨h0, h1, h2, h3⟩; exact (fun e => xor_ne _ 2 (by decide) e.symm) h0)], h⟩
  clear hR
  unfold maxLen at had
  have hr2 : ¬ 9223372036854775807 < rd.size + 1 := by omega
  have ha2 : ¬ 9223372036854775807 < ad.size + 1 := by omega
  generalize rl.length = rn at *
  go_enter Try.func6, Try.ntmps6
  go_wp2_with fail
  go_region
  · go_wp2_with fail
    go_region
    go_wp2_with (first
      | (go_at_call 19; rw [← HW0.out]; (with_reducible refine (HTO.out _).mono ?_); rintro e w4 ⟨rfl, hx⟩; have fa0 : ∀ W, Ext w4 W → W.cell? ⟨w.heap.size, 0, none⟩ = some (.int .i64 ac) := fun W h => ((K00.out.stay hx).stay h).cell 0; have fa1 : ∀ W, Ext w4 W → W.cell? ⟨w.heap.size, 1, none⟩ = some (.int .i64 as_) := fun W h => ((K00.out.stay hx).stay h).cell 1; have fa2 : ∀ W, Ext w4 W → W.cell? ⟨w.heap.size, 2, none⟩ = some (.int .i64 ak) := fun W h => ((K00.out.stay hx).stay h).cell 2; have fa3 : ∀ W, Ext w4 W → W.cell? ⟨w.heap.size, 3, none⟩ = some (.int .i64 ai) := fun W h => ((K00.out.stay hx).stay h).cell 3; have fa4 : ∀ W, Ext w4 W → W.cell? ⟨w.heap.size, 4, none⟩ = some (.int .i64 am) := fun W h => ((K00.out.stay hx).stay h).cell 4; have fa5 : ∀ W, Ext w4 W → W.cell? ⟨w.heap.size, 5, none⟩ = some (.string ad) := fun W h => ((K00.out.stay hx).stay h).cell 5; have fr0 : ∀ W, Ext w4 W → W.cell? ⟨w.heap.size + 1, 0, none⟩ = some (.int .i64 rc) := fun W h => ((K10.out.stay hx).stay h).cell 0; have fr1 : ∀ W, Ext w4 W → W.cell? ⟨w.heap.size + 1, 1, none⟩ = some (.int .i64 rv) := fun W h => ((K10.out.stay hx).stay h).cell 1; have fr2 : ∀ W, Ext w4 W → W.cell? ⟨w.heap.size + 1, 2, none⟩ = some (.string rd) := fun W h => ((K10.out.stay hx).stay h).cell 2; have fr3 : ∀ W, Ext w4 W → W.cell? ⟨w.heap.size + 1, 3, none⟩ = some (.slice RA rn rcap) := fun W h => ((K10.out.stay hx).stay h).cell 3; have fb0 : ∀ W, Ext w4 W → W.cell? ⟨w.heap.size + 1 + 1, 0, none⟩ = some (.int .i64 ac) := fun W h => ((K20.out.stay hx).stay h).cell 0; have fb1 : ∀ W, Ext w4 W → W.cell? ⟨w.heap.size + 1 + 1, 1, none⟩ = some (.int .i64 as_) := fun W h => ((K20.out.stay hx).stay h).cell 1; have fb2 : ∀ W, Ext w4 W → W.cell? ⟨w.heap.size + 1 + 1, 2, none⟩ = some (.int .i64 ak) := fun W h => ((K20.out.stay hx).stay h).cell 2; have fb3 : ∀ W, Ext w4 W → W.cell? ⟨w.heap.size + 1 + 1, 3, none⟩ = some (.int .i64 ai) := fun W h => ((K20.out.stay hx).stay h).cell 3; have fb4 : ∀ W, Ext w4 W → W.cell? ⟨w.heap.size + 1 + 1, 4, none⟩ = some (.int .i64 (bits BinOp.xor IntKind.i64 am 1)) := fun W h => ((K20.out.stay hx).stay h).cell 4; have fb5 : ∀ W, Ext w4 W → W.cell? ⟨w.heap.size + 1 + 1, 5, none⟩ = some (.string ad) := fun W h => ((K20.out.stay hx).stay h).cell 5; have fs0 : ∀ W, Ext w4 W → W.cell? ⟨w.heap.size + 1 + 1 + 1, 0, none⟩ = some (.int .i64 (bits BinOp.xor IntKind.i64 rc 2)) := fun W h => ((K30.out.stay hx).stay h).cell 0; have fs1 : ∀ W, Ext w4 W → W.cell? ⟨w.heap.size + 1 + 1 + 1, 1, none⟩ = some (.int .i64 rv) := fun W h => ((K30.out.stay hx).stay h).cell 1; have fs2 : ∀ W, Ext w4 W → W.cell? ⟨w.heap.size + 1 + 1 + 1, 2, none⟩ = some (.string rd) := fun W h => ((K30.out.stay hx).stay h).cell 2; have fs3 : ∀ W, Ext w4 W → W.cell? ⟨w.heap.size + 1 + 1 + 1, 3, none⟩ = some (.slice RA rn rcap) := fun W h => ((K30.out.stay hx).stay h).cell 3; have h4 : Ext w4 w4 := Ext.refl _; have X4 : Hid (Ext w w4) := Ext.trans HB0.out hx; clear hx)
      | (go_at_call 21; (with_reducible refine (HS1.out _).mono ?_); rintro e w5 ⟨rfl, hx⟩; have h5 : Ext w4 w5 := Ext.trans h4 hx; clear hx)
      | (go_at_call 22; (with_reducible refine (HSR.out _ (Ext.trans X4.out h5)).mono ?_); rintro e w6 ⟨rfl, hx⟩; have h6 : Ext w4 w6 := Ext.trans h5 hx; clear hx)
      | (go_at_call 21; (with_reducible refine (HS2.out _).mono ?_); rintro e w7 ⟨rfl, hx⟩; have h7 : Ext w4 w7 := Ext.trans h6 hx; clear hx))
    try go_ret
    exact hD.out _ _ ⟨rfl, Ext.trans X4.out h7⟩
  · go_wp2_with fail
    go_region
    go_wp2_with (first
      | (go_at_call 19; rw [← HW1.out]; (with_reducible refine (HTO.out _).mono ?_); rintro e w4 ⟨rfl, hx⟩; have fa0 : ∀ W, Ext w4 W → W.cell? ⟨w.heap.size, 0, none⟩ = some (.int .i64 ac) := fun W h => ((K01.out.stay hx).stay h).cell 0; have fa1 : ∀ W, Ext w4 W → W.cell? ⟨w.heap.size, 1, none⟩ = some (.int .i64 as_) := fun W h => ((K01.out.stay hx).stay h).cell 1; have fa2 : ∀ W, Ext w4 W → W.cell? ⟨w.heap.size, 2, none⟩ = some (.int .i64 ak) := fun W h => ((K01.out.stay hx).stay h).cell 2; have fa3 : ∀ W, Ext w4 W → W.cell? ⟨w.heap.size, 3, none⟩ = some (.int .i64 ai) := fun W h => ((K01.out.stay hx).stay h).cell 3; have fa4 : ∀ W, Ext w4 W → W.cell? ⟨w.heap.size, 4, none⟩ = some (.int .i64 am) := fun W h => ((K01.out.stay hx).stay h).cell 4; have fa5 : ∀ W, Ext w4 W → W.cell? ⟨w.heap.size, 5, none⟩ = some (.string ad) := fun W h => ((K01.out.stay hx).stay h).cell 5; have fr0 : ∀ W, Ext w4 W → W.cell? ⟨w.heap.size + 1, 0, none⟩ = some (.int .i64 rc) := fun W h => ((K11.out.stay hx).stay h).cell 0; have fr1 : ∀ W, Ext w4 W → W.cell? ⟨w.heap.size + 1, 1, none⟩ = some (.int .i64 rv) := fun W h => ((K11.out.stay hx).stay h).cell 1; have fr2 : ∀ W, Ext w4 W → W.cell? ⟨w.heap.size + 1, 2, none⟩ = some (.string rd) := fun W h => ((K11.out.stay hx).stay h).cell 2; have fr3 : ∀ W, Ext w4 W → W.cell? ⟨w.heap.size + 1, 3, none⟩ = some (.slice RA rn rcap) := fun W h => ((K11.out.stay hx).stay h).cell 3; have fb0 : ∀ W, Ext w4 W → W.cell? ⟨w.heap.size + 1 + 1 + 1, 0, none⟩ = some (.int .i64 ac) := fun W h => ((K21.out.stay hx).stay h).cell 0; have fb1 : ∀ W, Ext w4 W → W.cell? ⟨w.heap.size + 1 + 1 + 1, 1, none⟩ = some (.int .i64 as_) := fun W h => ((K21.out.stay hx).stay h).cell 1; have fb2 : ∀ W, Ext w4 W → W.cell? ⟨w.heap.size + 1 + 1 + 1, 2, none⟩ = some (.int .i64 ak) := fun W h => ((K21.out.stay hx).stay h).cell 2; have fb3 : ∀ W, Ext w4 W → W.cell? ⟨w.heap.size + 1 + 1 + 1, 3, none⟩ = some (.int .i64 ai) := fun W h => ((K21.out.stay hx).stay h).cell 3; have fb4 : ∀ W, Ext w4 W → W.cell? ⟨w.heap.size + 1 + 1 + 1, 4, none⟩ = some (.int .i64 (bits BinOp.xor IntKind.i64 am 1)) := fun W h => ((K21.out.stay hx).stay h).cell 4; have fb5 : ∀ W, Ext w4 W → W.cell? ⟨w.heap.size + 1 + 1 + 1, 5, none⟩ = some (.string ad) := fun W h => ((K21.out.stay hx).stay h).cell 5; have fs0 : ∀ W, Ext w4 W → W.cell? ⟨w.heap.size + 1 + 1, 0, none⟩ = some (.int .i64 (bits BinOp.xor IntKind.i64 rc 2)) := fun W h => ((K31.out.stay hx).stay h).cell 0; have fs1 : ∀ W, Ext w4 W → W.cell? ⟨w.heap.size + 1 + 1, 1, none⟩ = some (.int .i64 rv) := fun W h => ((K31.out.stay hx).stay h).cell 1; have fs2 : ∀ W, Ext w4 W → W.cell? ⟨w.heap.size + 1 + 1, 2, none⟩ = some (.string rd) := fun W h => ((K31.out.stay hx).stay h).cell 2; have fs3 : ∀ W, Ext w4 W → W.cell? ⟨w.heap.size + 1 + 1, 3, none⟩ = some (.slice RA rn rcap) := fun W h => ((K31.out.stay hx).stay h).cell 3; have h4 : Ext w4 w4 := Ext.refl _; have X4 : Hid (Ext w w4) := Ext.trans HB1.out hx; clear hx)
      | (go_at_call 21; (with_reducible refine (HS1.out _).mono ?_); rintro e w5 ⟨rfl, hx⟩; have h5 : Ext w4 w5 := Ext.trans h4 hx; clear hx)
      | (go_at_call 22; (with_reducible refine (HSR.out _ (Ext.trans X4.out h5)).mono ?_); rintro e w6 ⟨rfl, hx⟩; have h6 : Ext w4 w6 := Ext.trans h5 hx; clear hx)
      | (go_at_call 21; (with_reducible refine (HS2.out _).mono ?_); rintro e w7 ⟨rfl, hx⟩; have h7 : Ext w4 w7 := Ext.trans h6 hx; clear hx))
    try go_ret
    exact hD.out _ _ ⟨rfl, Ext.trans X4.out h7⟩

set_option maxHeartbeats 8000000 in
theorem reqParts_5 (ac as_ ak ai am : Int) (ad : ByteArray) (rc rv : Int) (rd : ByteArray) (RA : Option Addr) (rcap : Nat) (rl : List Int) (n : Int) (w : World)
    (had : ad.size ≤ maxLen) (hr : rl.length ≤ 9223372036854775807) (hR : Sl i64 w RA rl) (hrd : rd.size ≤ 140737488351232) (g1 : ¬ 50 < rl.length) (g2 : ¬ 300 < ad.size) (hm : wrap64 ((IntKind.u64.wrap n).tmod 6) = 5) : Calls Try.prog 6 #[reqV ac as_ ak ai am ad, repV rc rv rd RA rl.length rcap, .int .i64 n] w fun e w' => e = .returned (.bool true) ∧ Below w.heap.size w w' := by
  refine hide_post fun D hD => ?_
  obtain ⟨w0, hw0⟩ : ∃ w0, w0 = ((((w.alloc (.cells #[.int .i64 ac, .int .i64 as_, .int .i64 ak, .int .i64 ai, .int .i64 am, .string ad] 35)).alloc (.cells #[.int .i64 rc, .int .i64 rv, .string rd, .slice RA rl.length rcap] 37)).alloc (.cells #[.int .i64 ac, .int .i64 as_, .int .i64 ak, .int .i64 ai, .int .i64 am, .string (ad ++ { data := #[120] })] 35)).alloc (.cells #[.int .i64 rc, .int .i64 (bits BinOp.xor IntKind.i64 rv 2), .string rd, .slice RA rl.length rcap] 37)).drew.drew := ⟨_, rfl⟩
  have k0 : Blk w0 w.heap.size 35 #[.int .i64 ac, .int .i64 as_, .int .i64 ak, .int .i64 ai, .int .i64 am, .string ad] := by rw [hw0]; exact (((Blk.new _ _ _).alloc _).alloc _).alloc _
  have k1 : Blk w0 (w.heap.size + 1) 37 #[.int .i64 rc, .int .i64 rv, .string rd, .slice RA rl.length rcap] := by rw [hw0]; exact ((Blk.new' _ _ _ _ (by simp)).alloc _).alloc _
  have k2 : Blk w0 (w.heap.size + 1 + 1) 35 #[.int .i64 ac, .int .i64 as_, .int .i64 ak, .int .i64 ai, .int .i64 am, .string (ad ++ { data := #[120] })] := by rw [hw0]; exact (Blk.new' _ _ _ _ (by simp)).alloc _
  have k3 : Blk w0 (w.heap.size + 1 + 1 + 1) 37 #[.int .i64 rc, .int .i64 (bits BinOp.xor IntKind.i64 rv 2), .string rd, .slice RA rl.length rcap] := by rw [hw0]; exact Blk.new' _ _ _ _ (by simp)
  have HB0 : Hid (Ext w w0) := by show Below _ _ _; rw [hw0]; exact Ext.drewR (Ext.drewR (((((Below.refl _ _).alloc (Nat.le_refl _) _).alloc (by simp) _).alloc (by simp; omega) _).alloc (by simp; omega) _))
  have HW0 := Lib.hid hw0
  have K00 := Lib.hid k0
  have K10 := Lib.hid k1
  have K20 := Lib.hid k2
  have K30 := Lib.hid k3
  clear hw0 k0 k1 k2 k3
  obtain ⟨w1, hw0⟩ : ∃ w0, w0 = ((((w.alloc (.cells #[.int .i64 ac, .int .i64 as_, .int .i64 ak, .int .i64 ai, .int .i64 am, .string ad] 35)).alloc (.cells #[.int .i64 rc, .int .i64 rv, .string rd, .slice RA rl.length rcap] 37)).alloc (.cells #[.int .i64 rc, .int .i64 (bits BinOp.xor IntKind.i64 rv 2), .string rd, .slice RA rl.length rcap] 37)).alloc (.cells #[.int .i64 ac, .int .i64 as_, .int .i64 ak, .int .i64 ai, .int .i64 am, .string (ad ++ { data := #[120] })] 35)).drew.drew := ⟨_, rfl⟩
  have k0 : Blk w1 w.heap.size 35 #[.int .i64 ac, .int .i64 as_, .int .i64 ak, .int .i64 ai, .int .i64 am, .string ad] := by rw [hw0]; exact (((Blk.new _ _ _).alloc _).alloc _).alloc _
  have k1 : Blk w1 (w.heap.size + 1) 37 #[.int .i64 rc, .int .i64 rv, .string rd, .slice RA rl.length rcap] := by rw [hw0]; exact ((Blk.new' _ _ _ _ (by simp)).alloc _).alloc _
  have k2 : Blk w1 (w.heap.size + 1 + 1 + 1) 35 #[.int .i64 ac, .int .i64 as_, .int .i64 ak, .int .i64 ai, .int .i64 am, .string (ad ++ { data := #[120] })] := by rw [hw0]; exact Blk.new' _ _ _ _ (by simp)
  have k3 : Blk w1 (w.heap.size + 1 + 1) 37 #[.int .i64 rc, .int .i64 (bits BinOp.xor IntKind.i64 rv 2), .string rd, .slice RA rl.length rcap] := by rw [hw0]; exact (Blk.new' _ _ _ _ (by simp)).alloc _
  have HB1 : Hid (Ext w w1) := by show Below _ _ _; rw [hw0]; exact Ext.drewR (Ext.drewR (((((Below.refl _ _).alloc (Nat.le_refl _) _).alloc (by simp) _).alloc (by simp; omega) _).alloc (by simp; omega) _))
  have HW1 := Lib.hid hw0
  have K01 := Lib.hid k0
  have K11 := Lib.hid k1
  have K21 := Lib.hid k2
  have K31 := Lib.hid k3
  clear hw0 k0 k1 k2 k3
  have HTO : Hid (∀ W, Calls Try.prog 19 #[] W fun e w' => e = .returned (.bool true) ∧ Ext W w') := told_req
  have HS1 : Hid (∀ W, Calls Try.prog 21 #[.agg #[.int .i64 ac, .int .i64 as_, .int .i64 ak, .int .i64 ai, .int .i64 am, .string ad], .agg #[.int .i64 ac, .int .i64 as_, .int .i64 ak, .int .i64 ai, .int .i64 am, .string (ad ++ { data := #[120] })]] W fun e w' => e = .returned (.bool false) ∧ Ext W w') := fun W => (same_any _ _ _ _ _ _ _ _ _ _ _ _ W).mono fun _ _ ⟨he, h⟩ => ⟨by rw [he, decide_eq_false (by rintro ⟨h0, h1, h2, h3, h4, h5⟩; exact (app_ne ad) h5)], h⟩
  have HS2 : Hid (∀ W, Calls Try.prog 21 #[.agg #[.int .i64 ac, .int .i64 as_, .int .i64 ak, .int .i64 ai, .int .i64 am, .string (ad ++ { data := #[120] })], .agg #[.int .i64 ac, .int .i64 as_, .int .i64 ak, .int .i64 ai, .int .i64 am, .string (ad ++ { data := #[120] })]] W fun e w' => e = .returned (.bool true) ∧ Ext W w') := fun W => (same_any _ _ _ _ _ _ _ _ _ _ _ _ W).mono fun _ _ ⟨he, h⟩ => ⟨by rw [he, decide_eq_true (by simp)], h⟩
  have HSR : Hid (∀ W, Ext w W → Calls Try.prog 22 #[.agg #[.int .i64 rc, .int .i64 rv, .string rd, .slice RA rl.length rcap], .agg #[.int .i64 rc, .int .i64 (bits BinOp.xor IntKind.i64 rv 2), .string rd, .slice RA rl.length rcap]] W fun e w' => e = .returned (.bool false) ∧ Ext W w') := fun W hW => (sameReply_any _ _ _ _ _ _ RA RA rl rl rcap rcap W hr hr (hR.stay hW) (hR.stay hW)).mono fun _ _ ⟨he, h⟩ => ⟨by rw [he, decide_eq_false (by rintro ⟨h0, h1, h2, h3⟩; exact (fun e => xor_ne _ 2 (by decide) e.symm) h1)], h⟩
  clear hR
  unfold maxLen at had
  have hr2 : ¬ 9223372036854775807 < rd.size + 1 := by omega
  have ha2 : ¬ 9223372036854775807 < ad.size + 1 := by omega
  generalize rl.length = rn at *
  go_enter Try.func6, Try.ntmps6
  go_wp2_with fail
  go_region
  · go_wp2_with fail
    go_region
    go_wp2_with (first
      | (go_at_call 19; rw [← HW0.out]; (with_reducible refine (HTO.out _).mono ?_); rintro e w4 ⟨rfl, hx⟩; have fa0 : ∀ W, Ext w4 W → W.cell? ⟨w.heap.size, 0, none⟩ = some (.int .i64 ac) := fun W h => ((K00.out.stay hx).stay h).cell 0; have fa1 : ∀ W, Ext w4 W → W.cell? ⟨w.heap.size, 1, none⟩ = some (.int .i64 as_) := fun W h => ((K00.out.stay hx).stay h).cell 1; have fa2 : ∀ W, Ext w4 W → W.cell? ⟨w.heap.size, 2, none⟩ = some (.int .i64 ak) := fun W h => ((K00.out.stay hx).stay h).cell 2; have fa3 : ∀ W, Ext w4 W → W.cell? ⟨w.heap.size, 3, none⟩ = some (.int .i64 ai) := fun W h => ((K00.out.stay hx).stay h).cell 3; have fa4 : ∀ W, Ext w4 W → W.cell? ⟨w.heap.size, 4, none⟩ = some (.int .i64 am) := fun W h => ((K00.out.stay hx).stay h).cell 4; have fa5 : ∀ W, Ext w4 W → W.cell? ⟨w.heap.size, 5, none⟩ = some (.string ad) := fun W h => ((K00.out.stay hx).stay h).cell 5; have fr0 : ∀ W, Ext w4 W → W.cell? ⟨w.heap.size + 1, 0, none⟩ = some (.int .i64 rc) := fun W h => ((K10.out.stay hx).stay h).cell 0; have fr1 : ∀ W, Ext w4 W → W.cell? ⟨w.heap.size + 1, 1, none⟩ = some (.int .i64 rv) := fun W h => ((K10.out.stay hx).stay h).cell 1; have fr2 : ∀ W, Ext w4 W → W.cell? ⟨w.heap.size + 1, 2, none⟩ = some (.string rd) := fun W h => ((K10.out.stay hx).stay h).cell 2; have fr3 : ∀ W, Ext w4 W → W.cell? ⟨w.heap.size + 1, 3, none⟩ = some (.slice RA rn rcap) := fun W h => ((K10.out.stay hx).stay h).cell 3; have fb0 : ∀ W, Ext w4 W → W.cell? ⟨w.heap.size + 1 + 1, 0, none⟩ = some (.int .i64 ac) := fun W h => ((K20.out.stay hx).stay h).cell 0; have fb1 : ∀ W, Ext w4 W → W.cell? ⟨w.heap.size + 1 + 1, 1, none⟩ = some (.int .i64 as_) := fun W h => ((K20.out.stay hx).stay h).cell 1; have fb2 : ∀ W, Ext w4 W → W.cell? ⟨w.heap.size + 1 + 1, 2, none⟩ = some (.int .i64 ak) := fun W h => ((K20.out.stay hx).stay h).cell 2; have fb3 : ∀ W, Ext w4 W → W.cell? ⟨w.heap.size + 1 + 1, 3, none⟩ = some (.int .i64 ai) := fun W h => ((K20.out.stay hx).stay h).cell 3; have fb4 : ∀ W, Ext w4 W → W.cell? ⟨w.heap.size + 1 + 1, 4, none⟩ = some (.int .i64 am) := fun W h => ((K20.out.stay hx).stay h).cell 4; have fb5 : ∀ W, Ext w4 W → W.cell? ⟨w.heap.size + 1 + 1, 5, none⟩ = some (.string (ad ++ { data := #[120] })) := fun W h => ((K20.out.stay hx).stay h).cell 5; have fs0 : ∀ W, Ext w4 W → W.cell? ⟨w.heap.size + 1 + 1 + 1, 0, none⟩ = some (.int .i64 rc) := fun W h => ((K30.out.stay hx).stay h).cell 0; have fs1 : ∀ W, Ext w4 W → W.cell? ⟨w.heap.size + 1 + 1 + 1, 1, none⟩ = some (.int .i64 (bits BinOp.xor IntKind.i64 rv 2)) := fun W h => ((K30.out.stay hx).stay h).cell 1; have fs2 : ∀ W, Ext w4 W → W.cell? ⟨w.heap.size + 1 + 1 + 1, 2, none⟩ = some (.string rd) := fun W h => ((K30.out.stay hx).stay h).cell 2; have fs3 : ∀ W, Ext w4 W → W.cell? ⟨w.heap.size + 1 + 1 + 1, 3, none⟩ = some (.slice RA rn rcap) := fun W h => ((K30.out.stay hx).stay h).cell 3; have h4 : Ext w4 w4 := Ext.refl _; have X4 : Hid (Ext w w4) := Ext.trans HB0.out hx; clear hx)
      | (go_at_call 21; (with_reducible refine (HS1.out _).mono ?_); rintro e w5 ⟨rfl, hx⟩; have h5 : Ext w4 w5 := Ext.trans h4 hx; clear hx)
      | (go_at_call 22; (with_reducible refine (HSR.out _ (Ext.trans X4.out h5)).mono ?_); rintro e w6 ⟨rfl, hx⟩; have h6 : Ext w4 w6 := Ext.trans h5 hx; clear hx)
      | (go_at_call 21; (with_reducible refine (HS2.out _).mono ?_); rintro e w7 ⟨rfl, hx⟩; have h7 : Ext w4 w7 := Ext.trans h6 hx; clear hx))
    try go_ret
    exact hD.out _ _ ⟨rfl, Ext.trans X4.out h7⟩
  · go_wp2_with fail
    go_region
    go_wp2_with (first
      | (go_at_call 19; rw [← HW1.out]; (with_reducible refine (HTO.out _).mono ?_); rintro e w4 ⟨rfl, hx⟩; have fa0 : ∀ W, Ext w4 W → W.cell? ⟨w.heap.size, 0, none⟩ = some (.int .i64 ac) := fun W h => ((K01.out.stay hx).stay h).cell 0; have fa1 : ∀ W, Ext w4 W → W.cell? ⟨w.heap.size, 1, none⟩ = some (.int .i64 as_) := fun W h => ((K01.out.stay hx).stay h).cell 1; have fa2 : ∀ W, Ext w4 W → W.cell? ⟨w.heap.size, 2, none⟩ = some (.int .i64 ak) := fun W h => ((K01.out.stay hx).stay h).cell 2; have fa3 : ∀ W, Ext w4 W → W.cell? ⟨w.heap.size, 3, none⟩ = some (.int .i64 ai) := fun W h => ((K01.out.stay hx).stay h).cell 3; have fa4 : ∀ W, Ext w4 W → W.cell? ⟨w.heap.size, 4, none⟩ = some (.int .i64 am) := fun W h => ((K01.out.stay hx).stay h).cell 4; have fa5 : ∀ W, Ext w4 W → W.cell? ⟨w.heap.size, 5, none⟩ = some (.string ad) := fun W h => ((K01.out.stay hx).stay h).cell 5; have fr0 : ∀ W, Ext w4 W → W.cell? ⟨w.heap.size + 1, 0, none⟩ = some (.int .i64 rc) := fun W h => ((K11.out.stay hx).stay h).cell 0; have fr1 : ∀ W, Ext w4 W → W.cell? ⟨w.heap.size + 1, 1, none⟩ = some (.int .i64 rv) := fun W h => ((K11.out.stay hx).stay h).cell 1; have fr2 : ∀ W, Ext w4 W → W.cell? ⟨w.heap.size + 1, 2, none⟩ = some (.string rd) := fun W h => ((K11.out.stay hx).stay h).cell 2; have fr3 : ∀ W, Ext w4 W → W.cell? ⟨w.heap.size + 1, 3, none⟩ = some (.slice RA rn rcap) := fun W h => ((K11.out.stay hx).stay h).cell 3; have fb0 : ∀ W, Ext w4 W → W.cell? ⟨w.heap.size + 1 + 1 + 1, 0, none⟩ = some (.int .i64 ac) := fun W h => ((K21.out.stay hx).stay h).cell 0; have fb1 : ∀ W, Ext w4 W → W.cell? ⟨w.heap.size + 1 + 1 + 1, 1, none⟩ = some (.int .i64 as_) := fun W h => ((K21.out.stay hx).stay h).cell 1; have fb2 : ∀ W, Ext w4 W → W.cell? ⟨w.heap.size + 1 + 1 + 1, 2, none⟩ = some (.int .i64 ak) := fun W h => ((K21.out.stay hx).stay h).cell 2; have fb3 : ∀ W, Ext w4 W → W.cell? ⟨w.heap.size + 1 + 1 + 1, 3, none⟩ = some (.int .i64 ai) := fun W h => ((K21.out.stay hx).stay h).cell 3; have fb4 : ∀ W, Ext w4 W → W.cell? ⟨w.heap.size + 1 + 1 + 1, 4, none⟩ = some (.int .i64 am) := fun W h => ((K21.out.stay hx).stay h).cell 4; have fb5 : ∀ W, Ext w4 W → W.cell? ⟨w.heap.size + 1 + 1 + 1, 5, none⟩ = some (.string (ad ++ { data := #[120] })) := fun W h => ((K21.out.stay hx).stay h).cell 5; have fs0 : ∀ W, Ext w4 W → W.cell? ⟨w.heap.size + 1 + 1, 0, none⟩ = some (.int .i64 rc) := fun W h => ((K31.out.stay hx).stay h).cell 0; have fs1 : ∀ W, Ext w4 W → W.cell? ⟨w.heap.size + 1 + 1, 1, none⟩ = some (.int .i64 (bits BinOp.xor IntKind.i64 rv 2)) := fun W h => ((K31.out.stay hx).stay h).cell 1; have fs2 : ∀ W, Ext w4 W → W.cell? ⟨w.heap.size + 1 + 1, 2, none⟩ = some (.string rd) := fun W h => ((K31.out.stay hx).stay h).cell 2; have fs3 : ∀ W, Ext w4 W → W.cell? ⟨w.heap.size + 1 + 1, 3, none⟩ = some (.slice RA rn rcap) := fun W h => ((K31.out.stay hx).stay h).cell 3; have h4 : Ext w4 w4 := Ext.refl _; have X4 : Hid (Ext w w4) := Ext.trans HB1.out hx; clear hx)
      | (go_at_call 21; (with_reducible refine (HS1.out _).mono ?_); rintro e w5 ⟨rfl, hx⟩; have h5 : Ext w4 w5 := Ext.trans h4 hx; clear hx)
      | (go_at_call 22; (with_reducible refine (HSR.out _ (Ext.trans X4.out h5)).mono ?_); rintro e w6 ⟨rfl, hx⟩; have h6 : Ext w4 w6 := Ext.trans h5 hx; clear hx)
      | (go_at_call 21; (with_reducible refine (HS2.out _).mono ?_); rintro e w7 ⟨rfl, hx⟩; have h7 : Ext w4 w7 := Ext.trans h6 hx; clear hx))
    try go_ret
    exact hD.out _ _ ⟨rfl, Ext.trans X4.out h7⟩
end Go.Proofs.Ytbjekbbokhjfmaa
