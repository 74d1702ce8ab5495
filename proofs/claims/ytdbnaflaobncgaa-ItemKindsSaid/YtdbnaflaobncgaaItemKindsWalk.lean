/-
  The walk of the law ItemKinds.
-/
import Derived.Test.YtdbnaflaobncgaaTold2
import Derived.Test.YtdbnaflaobncgaaOpen
namespace Go.Proofs.Ytdbnaflaobncgaa
set_option linter.unusedVariables false
set_option linter.unusedSimpArgs false
open Go.RowKit Go.ChangeShapes Go.WideShapes

set_option maxRecDepth 8000 in
set_option maxHeartbeats 8000000 in
theorem kinds_1_f_z (kind mt : Int) (w : World) (ha : (IntKind.u64.wrap kind).tmod 6 = 0) (hm : (IntKind.u64.wrap mt).tmod 4 = 0) :
    Calls Try.prog 12 #[.int .i64 kind, .int .i64 mt, .bool false] w fun e w' => e = .returned (.bool true) ∧ Below w.heap.size w w' := by
  refine hide_post fun D hD => ?_

  have HT : Hid (∀ V, Calls Try.prog 29 #[] V fun e w' => e = .returned (.bool true) ∧ Ext V w') := told2
  obtain ⟨W0, hW0⟩ : ∃ W0, W0 = w.alloc (.cells #[.int .i64 0, .int .i64 1, .int .i64 1, .int .i64 0, .int .i64 0, .string ⟨#[]⟩] 30) := ⟨_, rfl⟩
  have kB : Blk W0 w.heap.size 30 #[.int .i64 0, .int .i64 1, .int .i64 1, .int .i64 0, .int .i64 0, .string ⟨#[]⟩] := by rw [hW0]; exact Blk.new _ _ _
  have hx0 : Ext w W0 := by rw [hW0]; exact Ext.alloc _ _
  have hb : Blk W0 w.heap.size 30 #[.int .i64 0, .int .i64 1, .int .i64 1, .int .i64 0, .int .i64 0, .string ⟨#[]⟩] := kB
  have hxx : Below w.heap.size w W0 := hx0
  have KB := Lib.hid hb
  have HXX := Lib.hid hxx
  have HW0 := Lib.hid hW0
  have CM : Hid (∀ V, Calls Try.prog 32 #[.agg #[.int .i64 0, .int .i64 1, .int .i64 1, .int .i64 0, .int .i64 0, .string ⟨#[]⟩]] V fun e w' => e = .returned (.bool true) ∧ Ext V w') := fun V => by
    have h := mayReq_any 0 1 1 0 0 ⟨#[]⟩ V (by decide)
    rw [show mayReqB 0 1 1 0 0 (ByteArray.size ⟨#[]⟩) = true by decide] at h
    exact h
  have CW : Hid (∀ V, Calls Try.prog 33 #[.agg #[.int .i64 0, .int .i64 1, .int .i64 1, .int .i64 0, .int .i64 0, .string ⟨#[]⟩]] V fun e w' => e = .returned (.bool true) ∧ Ext V w') := fun V => writes_any 0 1 1 0 0 ⟨#[]⟩ V
  clear kB hx0 hb hxx hW0
  go_enter Try.func12, Try.ntmps12
  go_wp2_with fail
  try rw [← HW0.out]
  go_wp2_with (first
    | (go_at_call 29; (with_reducible refine (HT.out _).mono ?_); rintro e w1 ⟨rfl, hx⟩; have HX1 : Hid (Below w.heap.size w w1) := HXX.out.trans (hx.mono HXX.out.size); have k1 := KB.out.stay hx; have a0 := k1.cell 0; have a1 := k1.cell 1; have a2 := k1.cell 2; have a3 := k1.cell 3; have a4 := k1.cell 4; have a5 := k1.cell 5; simp at a0 a1 a2 a3 a4 a5; have K1 := Lib.hid k1; clear hx k1)
    | (go_at_call 32; (with_reducible refine (CM.out _).mono ?_); rintro e w2 ⟨rfl, hx⟩; have HX2 : Hid (Below w.heap.size w w2) := HX1.out.trans (hx.mono HX1.out.size); have k1 := K1.out.stay hx; have b0 := k1.cell 0; have b1 := k1.cell 1; have b2 := k1.cell 2; have b3 := k1.cell 3; have b4 := k1.cell 4; have b5 := k1.cell 5; simp at b0 b1 b2 b3 b4 b5; clear hx k1)
    | (go_at_call 33; (with_reducible refine (CW.out _).mono ?_); rintro e w3 ⟨rfl, hx⟩; have HX3 : Hid (Below w.heap.size w w3) := HX2.out.trans (hx.mono HX2.out.size); clear hx))
  try go_ret
  exact hD.out _ _ ⟨rfl, HX3.out⟩

set_option maxRecDepth 8000 in
set_option maxHeartbeats 8000000 in
theorem kinds_1_f_p (kind mt : Int) (m : Int) (h0 : 0 < m) (h3 : m ≤ 3) (w : World) (ha : (IntKind.u64.wrap kind).tmod 6 = 0) (hm : (IntKind.u64.wrap mt).tmod 4 = m) :
    Calls Try.prog 12 #[.int .i64 kind, .int .i64 mt, .bool false] w fun e w' => e = .returned (.bool true) ∧ Below w.heap.size w w' := by
  refine hide_post fun D hD => ?_
  have hmz : ¬ m = 0 := by omega
  have HT : Hid (∀ V, Calls Try.prog 29 #[] V fun e w' => e = .returned (.bool true) ∧ Ext V w') := told2
  obtain ⟨W0, hW0⟩ : ∃ W0, W0 = w.alloc (.cells #[.int .i64 0, .int .i64 1, .int .i64 1, .int .i64 0, .int .i64 m, .string ⟨#[]⟩] 30) := ⟨_, rfl⟩
  have kB : Blk W0 w.heap.size 30 #[.int .i64 0, .int .i64 1, .int .i64 1, .int .i64 0, .int .i64 m, .string ⟨#[]⟩] := by rw [hW0]; exact Blk.new _ _ _
  have hx0 : Ext w W0 := by rw [hW0]; exact Ext.alloc _ _
  have hb : Blk W0 w.heap.size 30 #[.int .i64 0, .int .i64 1, .int .i64 1, .int .i64 0, .int .i64 m, .string ⟨#[]⟩] := kB
  have hxx : Below w.heap.size w W0 := hx0
  have KB := Lib.hid hb
  have HXX := Lib.hid hxx
  have HW0 := Lib.hid hW0
  have CM : Hid (∀ V, Calls Try.prog 32 #[.agg #[.int .i64 0, .int .i64 1, .int .i64 1, .int .i64 0, .int .i64 m, .string ⟨#[]⟩]] V fun e w' => e = .returned (.bool false) ∧ Ext V w') := fun V => by
    have h := mayReq_any 0 1 1 0 m ⟨#[]⟩ V (by decide)
    rw [show mayReqB 0 1 1 0 m (ByteArray.size ⟨#[]⟩) = false by unfold mayReqB; simp [ByteArray.size] <;> omega] at h
    exact h
  have CW : Hid (∀ V, Calls Try.prog 33 #[.agg #[.int .i64 0, .int .i64 1, .int .i64 1, .int .i64 0, .int .i64 m, .string ⟨#[]⟩]] V fun e w' => e = .returned (.bool true) ∧ Ext V w') := fun V => writes_any 0 1 1 0 m ⟨#[]⟩ V
  clear kB hx0 hb hxx hW0
  go_enter Try.func12, Try.ntmps12
  go_wp2_with fail
  try rw [← HW0.out]
  go_wp2_with (first
    | (go_at_call 29; (with_reducible refine (HT.out _).mono ?_); rintro e w1 ⟨rfl, hx⟩; have HX1 : Hid (Below w.heap.size w w1) := HXX.out.trans (hx.mono HXX.out.size); have k1 := KB.out.stay hx; have a0 := k1.cell 0; have a1 := k1.cell 1; have a2 := k1.cell 2; have a3 := k1.cell 3; have a4 := k1.cell 4; have a5 := k1.cell 5; simp at a0 a1 a2 a3 a4 a5; have K1 := Lib.hid k1; clear hx k1)
    | (go_at_call 32; (with_reducible refine (CM.out _).mono ?_); rintro e w2 ⟨rfl, hx⟩; have HX2 : Hid (Below w.heap.size w w2) := HX1.out.trans (hx.mono HX1.out.size); have k1 := K1.out.stay hx; have b0 := k1.cell 0; have b1 := k1.cell 1; have b2 := k1.cell 2; have b3 := k1.cell 3; have b4 := k1.cell 4; have b5 := k1.cell 5; simp at b0 b1 b2 b3 b4 b5; clear hx k1)
    | (go_at_call 33; (with_reducible refine (CW.out _).mono ?_); rintro e w3 ⟨rfl, hx⟩; have HX3 : Hid (Below w.heap.size w w3) := HX2.out.trans (hx.mono HX2.out.size); clear hx))
  try go_ret
  exact hD.out _ _ ⟨by first | rfl | (simp [hmz, h0]; done), HX3.out⟩

set_option maxRecDepth 8000 in
set_option maxHeartbeats 8000000 in
theorem kinds_1_t_z (kind mt : Int) (w : World) (ha : (IntKind.u64.wrap kind).tmod 6 = 0) (hm : (IntKind.u64.wrap mt).tmod 4 = 0) :
    Calls Try.prog 12 #[.int .i64 kind, .int .i64 mt, .bool true] w fun e w' => e = .returned (.bool true) ∧ Below w.heap.size w w' := by
  refine hide_post fun D hD => ?_

  have HT : Hid (∀ V, Calls Try.prog 29 #[] V fun e w' => e = .returned (.bool true) ∧ Ext V w') := told2
  obtain ⟨W0, hW0⟩ : ∃ W0, W0 = w.alloc (.cells #[.int .i64 0, .int .i64 1, .int .i64 1, .int .i64 0, .int .i64 0, .string ⟨#[120]⟩] 30) := ⟨_, rfl⟩
  have kB : Blk W0 w.heap.size 30 #[.int .i64 0, .int .i64 1, .int .i64 1, .int .i64 0, .int .i64 0, .string ⟨#[120]⟩] := by rw [hW0]; exact Blk.new _ _ _
  have hx0 : Ext w W0 := by rw [hW0]; exact Ext.alloc _ _
  have hb : Blk W0 w.heap.size 30 #[.int .i64 0, .int .i64 1, .int .i64 1, .int .i64 0, .int .i64 0, .string ⟨#[120]⟩] := kB
  have hxx : Below w.heap.size w W0 := hx0
  have KB := Lib.hid hb
  have HXX := Lib.hid hxx
  have HW0 := Lib.hid hW0
  have CM : Hid (∀ V, Calls Try.prog 32 #[.agg #[.int .i64 0, .int .i64 1, .int .i64 1, .int .i64 0, .int .i64 0, .string ⟨#[120]⟩]] V fun e w' => e = .returned (.bool true) ∧ Ext V w') := fun V => by
    have h := mayReq_any 0 1 1 0 0 ⟨#[120]⟩ V (by decide)
    rw [show mayReqB 0 1 1 0 0 (ByteArray.size ⟨#[120]⟩) = true by decide] at h
    exact h
  have CW : Hid (∀ V, Calls Try.prog 33 #[.agg #[.int .i64 0, .int .i64 1, .int .i64 1, .int .i64 0, .int .i64 0, .string ⟨#[120]⟩]] V fun e w' => e = .returned (.bool true) ∧ Ext V w') := fun V => writes_any 0 1 1 0 0 ⟨#[120]⟩ V
  clear kB hx0 hb hxx hW0
  go_enter Try.func12, Try.ntmps12
  go_wp2_with fail
  try rw [← HW0.out]
  go_wp2_with (first
    | (go_at_call 29; (with_reducible refine (HT.out _).mono ?_); rintro e w1 ⟨rfl, hx⟩; have HX1 : Hid (Below w.heap.size w w1) := HXX.out.trans (hx.mono HXX.out.size); have k1 := KB.out.stay hx; have a0 := k1.cell 0; have a1 := k1.cell 1; have a2 := k1.cell 2; have a3 := k1.cell 3; have a4 := k1.cell 4; have a5 := k1.cell 5; simp at a0 a1 a2 a3 a4 a5; have K1 := Lib.hid k1; clear hx k1)
    | (go_at_call 32; (with_reducible refine (CM.out _).mono ?_); rintro e w2 ⟨rfl, hx⟩; have HX2 : Hid (Below w.heap.size w w2) := HX1.out.trans (hx.mono HX1.out.size); have k1 := K1.out.stay hx; have b0 := k1.cell 0; have b1 := k1.cell 1; have b2 := k1.cell 2; have b3 := k1.cell 3; have b4 := k1.cell 4; have b5 := k1.cell 5; simp at b0 b1 b2 b3 b4 b5; clear hx k1)
    | (go_at_call 33; (with_reducible refine (CW.out _).mono ?_); rintro e w3 ⟨rfl, hx⟩; have HX3 : Hid (Below w.heap.size w w3) := HX2.out.trans (hx.mono HX2.out.size); clear hx))
  try go_ret
  exact hD.out _ _ ⟨rfl, HX3.out⟩

set_option maxRecDepth 8000 in
set_option maxHeartbeats 8000000 in
theorem kinds_1_t_p (kind mt : Int) (m : Int) (h0 : 0 < m) (h3 : m ≤ 3) (w : World) (ha : (IntKind.u64.wrap kind).tmod 6 = 0) (hm : (IntKind.u64.wrap mt).tmod 4 = m) :
    Calls Try.prog 12 #[.int .i64 kind, .int .i64 mt, .bool true] w fun e w' => e = .returned (.bool true) ∧ Below w.heap.size w w' := by
  refine hide_post fun D hD => ?_
  have hmz : ¬ m = 0 := by omega
  have HT : Hid (∀ V, Calls Try.prog 29 #[] V fun e w' => e = .returned (.bool true) ∧ Ext V w') := told2
  obtain ⟨W0, hW0⟩ : ∃ W0, W0 = w.alloc (.cells #[.int .i64 0, .int .i64 1, .int .i64 1, .int .i64 0, .int .i64 m, .string ⟨#[120]⟩] 30) := ⟨_, rfl⟩
  have kB : Blk W0 w.heap.size 30 #[.int .i64 0, .int .i64 1, .int .i64 1, .int .i64 0, .int .i64 m, .string ⟨#[120]⟩] := by rw [hW0]; exact Blk.new _ _ _
  have hx0 : Ext w W0 := by rw [hW0]; exact Ext.alloc _ _
  have hb : Blk W0 w.heap.size 30 #[.int .i64 0, .int .i64 1, .int .i64 1, .int .i64 0, .int .i64 m, .string ⟨#[120]⟩] := kB
  have hxx : Below w.heap.size w W0 := hx0
  have KB := Lib.hid hb
  have HXX := Lib.hid hxx
  have HW0 := Lib.hid hW0
  have CM : Hid (∀ V, Calls Try.prog 32 #[.agg #[.int .i64 0, .int .i64 1, .int .i64 1, .int .i64 0, .int .i64 m, .string ⟨#[120]⟩]] V fun e w' => e = .returned (.bool false) ∧ Ext V w') := fun V => by
    have h := mayReq_any 0 1 1 0 m ⟨#[120]⟩ V (by decide)
    rw [show mayReqB 0 1 1 0 m (ByteArray.size ⟨#[120]⟩) = false by unfold mayReqB; simp [ByteArray.size] <;> omega] at h
    exact h
  have CW : Hid (∀ V, Calls Try.prog 33 #[.agg #[.int .i64 0, .int .i64 1, .int .i64 1, .int .i64 0, .int .i64 m, .string ⟨#[120]⟩]] V fun e w' => e = .returned (.bool true) ∧ Ext V w') := fun V => writes_any 0 1 1 0 m ⟨#[120]⟩ V
  clear kB hx0 hb hxx hW0
  go_enter Try.func12, Try.ntmps12
  go_wp2_with fail
  try rw [← HW0.out]
  go_wp2_with (first
    | (go_at_call 29; (with_reducible refine (HT.out _).mono ?_); rintro e w1 ⟨rfl, hx⟩; have HX1 : Hid (Below w.heap.size w w1) := HXX.out.trans (hx.mono HXX.out.size); have k1 := KB.out.stay hx; have a0 := k1.cell 0; have a1 := k1.cell 1; have a2 := k1.cell 2; have a3 := k1.cell 3; have a4 := k1.cell 4; have a5 := k1.cell 5; simp at a0 a1 a2 a3 a4 a5; have K1 := Lib.hid k1; clear hx k1)
    | (go_at_call 32; (with_reducible refine (CM.out _).mono ?_); rintro e w2 ⟨rfl, hx⟩; have HX2 : Hid (Below w.heap.size w w2) := HX1.out.trans (hx.mono HX1.out.size); have k1 := K1.out.stay hx; have b0 := k1.cell 0; have b1 := k1.cell 1; have b2 := k1.cell 2; have b3 := k1.cell 3; have b4 := k1.cell 4; have b5 := k1.cell 5; simp at b0 b1 b2 b3 b4 b5; clear hx k1)
    | (go_at_call 33; (with_reducible refine (CW.out _).mono ?_); rintro e w3 ⟨rfl, hx⟩; have HX3 : Hid (Below w.heap.size w w3) := HX2.out.trans (hx.mono HX2.out.size); clear hx))
  try go_ret
  exact hD.out _ _ ⟨by first | rfl | (simp [hmz, h0]; done), HX3.out⟩

set_option maxRecDepth 8000 in
set_option maxHeartbeats 8000000 in
theorem kinds_2_f_z (kind mt : Int) (w : World) (ha : (IntKind.u64.wrap kind).tmod 6 = 1) (hm : (IntKind.u64.wrap mt).tmod 4 = 0) :
    Calls Try.prog 12 #[.int .i64 kind, .int .i64 mt, .bool false] w fun e w' => e = .returned (.bool true) ∧ Below w.heap.size w w' := by
  refine hide_post fun D hD => ?_

  have HT : Hid (∀ V, Calls Try.prog 29 #[] V fun e w' => e = .returned (.bool true) ∧ Ext V w') := told2
  obtain ⟨W0, hW0⟩ : ∃ W0, W0 = w.alloc (.cells #[.int .i64 0, .int .i64 1, .int .i64 2, .int .i64 0, .int .i64 0, .string ⟨#[]⟩] 30) := ⟨_, rfl⟩
  have kB : Blk W0 w.heap.size 30 #[.int .i64 0, .int .i64 1, .int .i64 2, .int .i64 0, .int .i64 0, .string ⟨#[]⟩] := by rw [hW0]; exact Blk.new _ _ _
  have hx0 : Ext w W0 := by rw [hW0]; exact Ext.alloc _ _
  have hb : Blk W0 w.heap.size 30 #[.int .i64 0, .int .i64 1, .int .i64 2, .int .i64 0, .int .i64 0, .string ⟨#[]⟩] := kB
  have hxx : Below w.heap.size w W0 := hx0
  have KB := Lib.hid hb
  have HXX := Lib.hid hxx
  have HW0 := Lib.hid hW0
  have CM : Hid (∀ V, Calls Try.prog 32 #[.agg #[.int .i64 0, .int .i64 1, .int .i64 2, .int .i64 0, .int .i64 0, .string ⟨#[]⟩]] V fun e w' => e = .returned (.bool true) ∧ Ext V w') := fun V => by
    have h := mayReq_any 0 1 2 0 0 ⟨#[]⟩ V (by decide)
    rw [show mayReqB 0 1 2 0 0 (ByteArray.size ⟨#[]⟩) = true by decide] at h
    exact h
  have CW : Hid (∀ V, Calls Try.prog 33 #[.agg #[.int .i64 0, .int .i64 1, .int .i64 2, .int .i64 0, .int .i64 0, .string ⟨#[]⟩]] V fun e w' => e = .returned (.bool true) ∧ Ext V w') := fun V => writes_any 0 1 2 0 0 ⟨#[]⟩ V
  clear kB hx0 hb hxx hW0
  go_enter Try.func12, Try.ntmps12
  go_wp2_with fail
  try rw [← HW0.out]
  go_wp2_with (first
    | (go_at_call 29; (with_reducible refine (HT.out _).mono ?_); rintro e w1 ⟨rfl, hx⟩; have HX1 : Hid (Below w.heap.size w w1) := HXX.out.trans (hx.mono HXX.out.size); have k1 := KB.out.stay hx; have a0 := k1.cell 0; have a1 := k1.cell 1; have a2 := k1.cell 2; have a3 := k1.cell 3; have a4 := k1.cell 4; have a5 := k1.cell 5; simp at a0 a1 a2 a3 a4 a5; have K1 := Lib.hid k1; clear hx k1)
    | (go_at_call 32; (with_reducible refine (CM.out _).mono ?_); rintro e w2 ⟨rfl, hx⟩; have HX2 : Hid (Below w.heap.size w w2) := HX1.out.trans (hx.mono HX1.out.size); have k1 := K1.out.stay hx; have b0 := k1.cell 0; have b1 := k1.cell 1; have b2 := k1.cell 2; have b3 := k1.cell 3; have b4 := k1.cell 4; have b5 := k1.cell 5; simp at b0 b1 b2 b3 b4 b5; clear hx k1)
    | (go_at_call 33; (with_reducible refine (CW.out _).mono ?_); rintro e w3 ⟨rfl, hx⟩; have HX3 : Hid (Below w.heap.size w w3) := HX2.out.trans (hx.mono HX2.out.size); clear hx))
  try go_ret
  exact hD.out _ _ ⟨rfl, HX3.out⟩

set_option maxRecDepth 8000 in
set_option maxHeartbeats 8000000 in
theorem kinds_2_f_p (kind mt : Int) (m : Int) (h0 : 0 < m) (h3 : m ≤ 3) (w : World) (ha : (IntKind.u64.wrap kind).tmod 6 = 1) (hm : (IntKind.u64.wrap mt).tmod 4 = m) :
    Calls Try.prog 12 #[.int .i64 kind, .int .i64 mt, .bool false] w fun e w' => e = .returned (.bool true) ∧ Below w.heap.size w w' := by
  refine hide_post fun D hD => ?_
  have hmz : ¬ m = 0 := by omega
  have HT : Hid (∀ V, Calls Try.prog 29 #[] V fun e w' => e = .returned (.bool true) ∧ Ext V w') := told2
  obtain ⟨W0, hW0⟩ : ∃ W0, W0 = w.alloc (.cells #[.int .i64 0, .int .i64 1, .int .i64 2, .int .i64 0, .int .i64 m, .string ⟨#[]⟩] 30) := ⟨_, rfl⟩
  have kB : Blk W0 w.heap.size 30 #[.int .i64 0, .int .i64 1, .int .i64 2, .int .i64 0, .int .i64 m, .string ⟨#[]⟩] := by rw [hW0]; exact Blk.new _ _ _
  have hx0 : Ext w W0 := by rw [hW0]; exact Ext.alloc _ _
  have hb : Blk W0 w.heap.size 30 #[.int .i64 0, .int .i64 1, .int .i64 2, .int .i64 0, .int .i64 m, .string ⟨#[]⟩] := kB
  have hxx : Below w.heap.size w W0 := hx0
  have KB := Lib.hid hb
  have HXX := Lib.hid hxx
  have HW0 := Lib.hid hW0
  have CM : Hid (∀ V, Calls Try.prog 32 #[.agg #[.int .i64 0, .int .i64 1, .int .i64 2, .int .i64 0, .int .i64 m, .string ⟨#[]⟩]] V fun e w' => e = .returned (.bool true) ∧ Ext V w') := fun V => by
    have h := mayReq_any 0 1 2 0 m ⟨#[]⟩ V (by decide)
    rw [show mayReqB 0 1 2 0 m (ByteArray.size ⟨#[]⟩) = true by unfold mayReqB; simp [ByteArray.size] <;> omega] at h
    exact h
  have CW : Hid (∀ V, Calls Try.prog 33 #[.agg #[.int .i64 0, .int .i64 1, .int .i64 2, .int .i64 0, .int .i64 m, .string ⟨#[]⟩]] V fun e w' => e = .returned (.bool true) ∧ Ext V w') := fun V => writes_any 0 1 2 0 m ⟨#[]⟩ V
  clear kB hx0 hb hxx hW0
  go_enter Try.func12, Try.ntmps12
  go_wp2_with fail
  try rw [← HW0.out]
  go_wp2_with (first
    | (go_at_call 29; (with_reducible refine (HT.out _).mono ?_); rintro e w1 ⟨rfl, hx⟩; have HX1 : Hid (Below w.heap.size w w1) := HXX.out.trans (hx.mono HXX.out.size); have k1 := KB.out.stay hx; have a0 := k1.cell 0; have a1 := k1.cell 1; have a2 := k1.cell 2; have a3 := k1.cell 3; have a4 := k1.cell 4; have a5 := k1.cell 5; simp at a0 a1 a2 a3 a4 a5; have K1 := Lib.hid k1; clear hx k1)
    | (go_at_call 32; (with_reducible refine (CM.out _).mono ?_); rintro e w2 ⟨rfl, hx⟩; have HX2 : Hid (Below w.heap.size w w2) := HX1.out.trans (hx.mono HX1.out.size); have k1 := K1.out.stay hx; have b0 := k1.cell 0; have b1 := k1.cell 1; have b2 := k1.cell 2; have b3 := k1.cell 3; have b4 := k1.cell 4; have b5 := k1.cell 5; simp at b0 b1 b2 b3 b4 b5; clear hx k1)
    | (go_at_call 33; (with_reducible refine (CW.out _).mono ?_); rintro e w3 ⟨rfl, hx⟩; have HX3 : Hid (Below w.heap.size w w3) := HX2.out.trans (hx.mono HX2.out.size); clear hx))
  try go_ret
  exact hD.out _ _ ⟨by first | rfl | (simp [hmz, h0]; done), HX3.out⟩

set_option maxRecDepth 8000 in
set_option maxHeartbeats 8000000 in
theorem kinds_2_t_z (kind mt : Int) (w : World) (ha : (IntKind.u64.wrap kind).tmod 6 = 1) (hm : (IntKind.u64.wrap mt).tmod 4 = 0) :
    Calls Try.prog 12 #[.int .i64 kind, .int .i64 mt, .bool true] w fun e w' => e = .returned (.bool true) ∧ Below w.heap.size w w' := by
  refine hide_post fun D hD => ?_

  have HT : Hid (∀ V, Calls Try.prog 29 #[] V fun e w' => e = .returned (.bool true) ∧ Ext V w') := told2
  obtain ⟨W0, hW0⟩ : ∃ W0, W0 = w.alloc (.cells #[.int .i64 0, .int .i64 1, .int .i64 2, .int .i64 0, .int .i64 0, .string ⟨#[120]⟩] 30) := ⟨_, rfl⟩
  have kB : Blk W0 w.heap.size 30 #[.int .i64 0, .int .i64 1, .int .i64 2, .int .i64 0, .int .i64 0, .string ⟨#[120]⟩] := by rw [hW0]; exact Blk.new _ _ _
  have hx0 : Ext w W0 := by rw [hW0]; exact Ext.alloc _ _
  have hb : Blk W0 w.heap.size 30 #[.int .i64 0, .int .i64 1, .int .i64 2, .int .i64 0, .int .i64 0, .string ⟨#[120]⟩] := kB
  have hxx : Below w.heap.size w W0 := hx0
  have KB := Lib.hid hb
  have HXX := Lib.hid hxx
  have HW0 := Lib.hid hW0
  have CM : Hid (∀ V, Calls Try.prog 32 #[.agg #[.int .i64 0, .int .i64 1, .int .i64 2, .int .i64 0, .int .i64 0, .string ⟨#[120]⟩]] V fun e w' => e = .returned (.bool true) ∧ Ext V w') := fun V => by
    have h := mayReq_any 0 1 2 0 0 ⟨#[120]⟩ V (by decide)
    rw [show mayReqB 0 1 2 0 0 (ByteArray.size ⟨#[120]⟩) = true by decide] at h
    exact h
  have CW : Hid (∀ V, Calls Try.prog 33 #[.agg #[.int .i64 0, .int .i64 1, .int .i64 2, .int .i64 0, .int .i64 0, .string ⟨#[120]⟩]] V fun e w' => e = .returned (.bool true) ∧ Ext V w') := fun V => writes_any 0 1 2 0 0 ⟨#[120]⟩ V
  clear kB hx0 hb hxx hW0
  go_enter Try.func12, Try.ntmps12
  go_wp2_with fail
  try rw [← HW0.out]
  go_wp2_with (first
    | (go_at_call 29; (with_reducible refine (HT.out _).mono ?_); rintro e w1 ⟨rfl, hx⟩; have HX1 : Hid (Below w.heap.size w w1) := HXX.out.trans (hx.mono HXX.out.size); have k1 := KB.out.stay hx; have a0 := k1.cell 0; have a1 := k1.cell 1; have a2 := k1.cell 2; have a3 := k1.cell 3; have a4 := k1.cell 4; have a5 := k1.cell 5; simp at a0 a1 a2 a3 a4 a5; have K1 := Lib.hid k1; clear hx k1)
    | (go_at_call 32; (with_reducible refine (CM.out _).mono ?_); rintro e w2 ⟨rfl, hx⟩; have HX2 : Hid (Below w.heap.size w w2) := HX1.out.trans (hx.mono HX1.out.size); have k1 := K1.out.stay hx; have b0 := k1.cell 0; have b1 := k1.cell 1; have b2 := k1.cell 2; have b3 := k1.cell 3; have b4 := k1.cell 4; have b5 := k1.cell 5; simp at b0 b1 b2 b3 b4 b5; clear hx k1)
    | (go_at_call 33; (with_reducible refine (CW.out _).mono ?_); rintro e w3 ⟨rfl, hx⟩; have HX3 : Hid (Below w.heap.size w w3) := HX2.out.trans (hx.mono HX2.out.size); clear hx))
  try go_ret
  exact hD.out _ _ ⟨rfl, HX3.out⟩

set_option maxRecDepth 8000 in
set_option maxHeartbeats 8000000 in
theorem kinds_2_t_p (kind mt : Int) (m : Int) (h0 : 0 < m) (h3 : m ≤ 3) (w : World) (ha : (IntKind.u64.wrap kind).tmod 6 = 1) (hm : (IntKind.u64.wrap mt).tmod 4 = m) :
    Calls Try.prog 12 #[.int .i64 kind, .int .i64 mt, .bool true] w fun e w' => e = .returned (.bool true) ∧ Below w.heap.size w w' := by
  refine hide_post fun D hD => ?_
  have hmz : ¬ m = 0 := by omega
  have HT : Hid (∀ V, Calls Try.prog 29 #[] V fun e w' => e = .returned (.bool true) ∧ Ext V w') := told2
  obtain ⟨W0, hW0⟩ : ∃ W0, W0 = w.alloc (.cells #[.int .i64 0, .int .i64 1, .int .i64 2, .int .i64 0, .int .i64 m, .string ⟨#[120]⟩] 30) := ⟨_, rfl⟩
  have kB : Blk W0 w.heap.size 30 #[.int .i64 0, .int .i64 1, .int .i64 2, .int .i64 0, .int .i64 m, .string ⟨#[120]⟩] := by rw [hW0]; exact Blk.new _ _ _
  have hx0 : Ext w W0 := by rw [hW0]; exact Ext.alloc _ _
  have hb : Blk W0 w.heap.size 30 #[.int .i64 0, .int .i64 1, .int .i64 2, .int .i64 0, .int .i64 m, .string ⟨#[120]⟩] := kB
  have hxx : Below w.heap.size w W0 := hx0
  have KB := Lib.hid hb
  have HXX := Lib.hid hxx
  have HW0 := Lib.hid hW0
  have CM : Hid (∀ V, Calls Try.prog 32 #[.agg #[.int .i64 0, .int .i64 1, .int .i64 2, .int .i64 0, .int .i64 m, .string ⟨#[120]⟩]] V fun e w' => e = .returned (.bool true) ∧ Ext V w') := fun V => by
    have h := mayReq_any 0 1 2 0 m ⟨#[120]⟩ V (by decide)
    rw [show mayReqB 0 1 2 0 m (ByteArray.size ⟨#[120]⟩) = true by unfold mayReqB; simp [ByteArray.size] <;> omega] at h
    exact h
  have CW : Hid (∀ V, Calls Try.prog 33 #[.agg #[.int .i64 0, .int .i64 1, .int .i64 2, .int .i64 0, .int .i64 m, .string ⟨#[120]⟩]] V fun e w' => e = .returned (.bool true) ∧ Ext V w') := fun V => writes_any 0 1 2 0 m ⟨#[120]⟩ V
  clear kB hx0 hb hxx hW0
  go_enter Try.func12, Try.ntmps12
  go_wp2_with fail
  try rw [← HW0.out]
  go_wp2_with (first
    | (go_at_call 29; (with_reducible refine (HT.out _).mono ?_); rintro e w1 ⟨rfl, hx⟩; have HX1 : Hid (Below w.heap.size w w1) := HXX.out.trans (hx.mono HXX.out.size); have k1 := KB.out.stay hx; have a0 := k1.cell 0; have a1 := k1.cell 1; have a2 := k1.cell 2; have a3 := k1.cell 3; have a4 := k1.cell 4; have a5 := k1.cell 5; simp at a0 a1 a2 a3 a4 a5; have K1 := Lib.hid k1; clear hx k1)
    | (go_at_call 32; (with_reducible refine (CM.out _).mono ?_); rintro e w2 ⟨rfl, hx⟩; have HX2 : Hid (Below w.heap.size w w2) := HX1.out.trans (hx.mono HX1.out.size); have k1 := K1.out.stay hx; have b0 := k1.cell 0; have b1 := k1.cell 1; have b2 := k1.cell 2; have b3 := k1.cell 3; have b4 := k1.cell 4; have b5 := k1.cell 5; simp at b0 b1 b2 b3 b4 b5; clear hx k1)
    | (go_at_call 33; (with_reducible refine (CW.out _).mono ?_); rintro e w3 ⟨rfl, hx⟩; have HX3 : Hid (Below w.heap.size w w3) := HX2.out.trans (hx.mono HX2.out.size); clear hx))
  try go_ret
  exact hD.out _ _ ⟨by first | rfl | (simp [hmz, h0]; done), HX3.out⟩

set_option maxRecDepth 8000 in
set_option maxHeartbeats 8000000 in
theorem kinds_3_f_z (kind mt : Int) (w : World) (ha : (IntKind.u64.wrap kind).tmod 6 = 2) (hm : (IntKind.u64.wrap mt).tmod 4 = 0) :
    Calls Try.prog 12 #[.int .i64 kind, .int .i64 mt, .bool false] w fun e w' => e = .returned (.bool true) ∧ Below w.heap.size w w' := by
  refine hide_post fun D hD => ?_

  have HT : Hid (∀ V, Calls Try.prog 29 #[] V fun e w' => e = .returned (.bool true) ∧ Ext V w') := told2
  obtain ⟨W0, hW0⟩ : ∃ W0, W0 = w.alloc (.cells #[.int .i64 0, .int .i64 1, .int .i64 3, .int .i64 0, .int .i64 0, .string ⟨#[]⟩] 30) := ⟨_, rfl⟩
  have kB : Blk W0 w.heap.size 30 #[.int .i64 0, .int .i64 1, .int .i64 3, .int .i64 0, .int .i64 0, .string ⟨#[]⟩] := by rw [hW0]; exact Blk.new _ _ _
  have hx0 : Ext w W0 := by rw [hW0]; exact Ext.alloc _ _
  have hb : Blk W0 w.heap.size 30 #[.int .i64 0, .int .i64 1, .int .i64 3, .int .i64 0, .int .i64 0, .string ⟨#[]⟩] := kB
  have hxx : Below w.heap.size w W0 := hx0
  have KB := Lib.hid hb
  have HXX := Lib.hid hxx
  have HW0 := Lib.hid hW0
  have CM : Hid (∀ V, Calls Try.prog 32 #[.agg #[.int .i64 0, .int .i64 1, .int .i64 3, .int .i64 0, .int .i64 0, .string ⟨#[]⟩]] V fun e w' => e = .returned (.bool true) ∧ Ext V w') := fun V => by
    have h := mayReq_any 0 1 3 0 0 ⟨#[]⟩ V (by decide)
    rw [show mayReqB 0 1 3 0 0 (ByteArray.size ⟨#[]⟩) = true by decide] at h
    exact h
  have CW : Hid (∀ V, Calls Try.prog 33 #[.agg #[.int .i64 0, .int .i64 1, .int .i64 3, .int .i64 0, .int .i64 0, .string ⟨#[]⟩]] V fun e w' => e = .returned (.bool true) ∧ Ext V w') := fun V => writes_any 0 1 3 0 0 ⟨#[]⟩ V
  clear kB hx0 hb hxx hW0
  go_enter Try.func12, Try.ntmps12
  go_wp2_with fail
  try rw [← HW0.out]
  go_wp2_with (first
    | (go_at_call 29; (with_reducible refine (HT.out _).mono ?_); rintro e w1 ⟨rfl, hx⟩; have HX1 : Hid (Below w.heap.size w w1) := HXX.out.trans (hx.mono HXX.out.size); have k1 := KB.out.stay hx; have a0 := k1.cell 0; have a1 := k1.cell 1; have a2 := k1.cell 2; have a3 := k1.cell 3; have a4 := k1.cell 4; have a5 := k1.cell 5; simp at a0 a1 a2 a3 a4 a5; have K1 := Lib.hid k1; clear hx k1)
    | (go_at_call 32; (with_reducible refine (CM.out _).mono ?_); rintro e w2 ⟨rfl, hx⟩; have HX2 : Hid (Below w.heap.size w w2) := HX1.out.trans (hx.mono HX1.out.size); have k1 := K1.out.stay hx; have b0 := k1.cell 0; have b1 := k1.cell 1; have b2 := k1.cell 2; have b3 := k1.cell 3; have b4 := k1.cell 4; have b5 := k1.cell 5; simp at b0 b1 b2 b3 b4 b5; clear hx k1)
    | (go_at_call 33; (with_reducible refine (CW.out _).mono ?_); rintro e w3 ⟨rfl, hx⟩; have HX3 : Hid (Below w.heap.size w w3) := HX2.out.trans (hx.mono HX2.out.size); clear hx))
  try go_ret
  exact hD.out _ _ ⟨rfl, HX3.out⟩

set_option maxRecDepth 8000 in
set_option maxHeartbeats 8000000 in
theorem kinds_3_f_p (kind mt : Int) (m : Int) (h0 : 0 < m) (h3 : m ≤ 3) (w : World) (ha : (IntKind.u64.wrap kind).tmod 6 = 2) (hm : (IntKind.u64.wrap mt).tmod 4 = m) :
    Calls Try.prog 12 #[.int .i64 kind, .int .i64 mt, .bool false] w fun e w' => e = .returned (.bool true) ∧ Below w.heap.size w w' := by
  refine hide_post fun D hD => ?_
  have hmz : ¬ m = 0 := by omega
  have HT : Hid (∀ V, Calls Try.prog 29 #[] V fun e w' => e = .returned (.bool true) ∧ Ext V w') := told2
  obtain ⟨W0, hW0⟩ : ∃ W0, W0 = w.alloc (.cells #[.int .i64 0, .int .i64 1, .int .i64 3, .int .i64 0, .int .i64 m, .string ⟨#[]⟩] 30) := ⟨_, rfl⟩
  have kB : Blk W0 w.heap.size 30 #[.int .i64 0, .int .i64 1, .int .i64 3, .int .i64 0, .int .i64 m, .string ⟨#[]⟩] := by rw [hW0]; exact Blk.new _ _ _
  have hx0 : Ext w W0 := by rw [hW0]; exact Ext.alloc _ _
  have hb : Blk W0 w.heap.size 30 #[.int .i64 0, .int .i64 1, .int .i64 3, .int .i64 0, .int .i64 m, .string ⟨#[]⟩] := kB
  have hxx : Below w.heap.size w W0 := hx0
  have KB := Lib.hid hb
  have HXX := Lib.hid hxx
  have HW0 := Lib.hid hW0
  have CM : Hid (∀ V, Calls Try.prog 32 #[.agg #[.int .i64 0, .int .i64 1, .int .i64 3, .int .i64 0, .int .i64 m, .string ⟨#[]⟩]] V fun e w' => e = .returned (.bool true) ∧ Ext V w') := fun V => by
    have h := mayReq_any 0 1 3 0 m ⟨#[]⟩ V (by decide)
    rw [show mayReqB 0 1 3 0 m (ByteArray.size ⟨#[]⟩) = true by unfold mayReqB; simp [ByteArray.size] <;> omega] at h
    exact h
  have CW : Hid (∀ V, Calls Try.prog 33 #[.agg #[.int .i64 0, .int .i64 1, .int .i64 3, .int .i64 0, .int .i64 m, .string ⟨#[]⟩]] V fun e w' => e = .returned (.bool true) ∧ Ext V w') := fun V => writes_any 0 1 3 0 m ⟨#[]⟩ V
  clear kB hx0 hb hxx hW0
  go_enter Try.func12, Try.ntmps12
  go_wp2_with fail
  try rw [← HW0.out]
  go_wp2_with (first
    | (go_at_call 29; (with_reducible refine (HT.out _).mono ?_); rintro e w1 ⟨rfl, hx⟩; have HX1 : Hid (Below w.heap.size w w1) := HXX.out.trans (hx.mono HXX.out.size); have k1 := KB.out.stay hx; have a0 := k1.cell 0; have a1 := k1.cell 1; have a2 := k1.cell 2; have a3 := k1.cell 3; have a4 := k1.cell 4; have a5 := k1.cell 5; simp at a0 a1 a2 a3 a4 a5; have K1 := Lib.hid k1; clear hx k1)
    | (go_at_call 32; (with_reducible refine (CM.out _).mono ?_); rintro e w2 ⟨rfl, hx⟩; have HX2 : Hid (Below w.heap.size w w2) := HX1.out.trans (hx.mono HX1.out.size); have k1 := K1.out.stay hx; have b0 := k1.cell 0; have b1 := k1.cell 1; have b2 := k1.cell 2; have b3 := k1.cell 3; have b4 := k1.cell 4; have b5 := k1.cell 5; simp at b0 b1 b2 b3 b4 b5; clear hx k1)
    | (go_at_call 33; (with_reducible refine (CW.out _).mono ?_); rintro e w3 ⟨rfl, hx⟩; have HX3 : Hid (Below w.heap.size w w3) := HX2.out.trans (hx.mono HX2.out.size); clear hx))
  try go_ret
  exact hD.out _ _ ⟨by first | rfl | (simp [hmz, h0]; done), HX3.out⟩

set_option maxRecDepth 8000 in
set_option maxHeartbeats 8000000 in
theorem kinds_3_t_z (kind mt : Int) (w : World) (ha : (IntKind.u64.wrap kind).tmod 6 = 2) (hm : (IntKind.u64.wrap mt).tmod 4 = 0) :
    Calls Try.prog 12 #[.int .i64 kind, .int .i64 mt, .bool true] w fun e w' => e = .returned (.bool true) ∧ Below w.heap.size w w' := by
  refine hide_post fun D hD => ?_

  have HT : Hid (∀ V, Calls Try.prog 29 #[] V fun e w' => e = .returned (.bool true) ∧ Ext V w') := told2
  obtain ⟨W0, hW0⟩ : ∃ W0, W0 = w.alloc (.cells #[.int .i64 0, .int .i64 1, .int .i64 3, .int .i64 0, .int .i64 0, .string ⟨#[120]⟩] 30) := ⟨_, rfl⟩
  have kB : Blk W0 w.heap.size 30 #[.int .i64 0, .int .i64 1, .int .i64 3, .int .i64 0, .int .i64 0, .string ⟨#[120]⟩] := by rw [hW0]; exact Blk.new _ _ _
  have hx0 : Ext w W0 := by rw [hW0]; exact Ext.alloc _ _
  have hb : Blk W0 w.heap.size 30 #[.int .i64 0, .int .i64 1, .int .i64 3, .int .i64 0, .int .i64 0, .string ⟨#[120]⟩] := kB
  have hxx : Below w.heap.size w W0 := hx0
  have KB := Lib.hid hb
  have HXX := Lib.hid hxx
  have HW0 := Lib.hid hW0
  have CM : Hid (∀ V, Calls Try.prog 32 #[.agg #[.int .i64 0, .int .i64 1, .int .i64 3, .int .i64 0, .int .i64 0, .string ⟨#[120]⟩]] V fun e w' => e = .returned (.bool false) ∧ Ext V w') := fun V => by
    have h := mayReq_any 0 1 3 0 0 ⟨#[120]⟩ V (by decide)
    rw [show mayReqB 0 1 3 0 0 (ByteArray.size ⟨#[120]⟩) = false by decide] at h
    exact h
  have CW : Hid (∀ V, Calls Try.prog 33 #[.agg #[.int .i64 0, .int .i64 1, .int .i64 3, .int .i64 0, .int .i64 0, .string ⟨#[120]⟩]] V fun e w' => e = .returned (.bool true) ∧ Ext V w') := fun V => writes_any 0 1 3 0 0 ⟨#[120]⟩ V
  clear kB hx0 hb hxx hW0
  go_enter Try.func12, Try.ntmps12
  go_wp2_with fail
  try rw [← HW0.out]
  go_wp2_with (first
    | (go_at_call 29; (with_reducible refine (HT.out _).mono ?_); rintro e w1 ⟨rfl, hx⟩; have HX1 : Hid (Below w.heap.size w w1) := HXX.out.trans (hx.mono HXX.out.size); have k1 := KB.out.stay hx; have a0 := k1.cell 0; have a1 := k1.cell 1; have a2 := k1.cell 2; have a3 := k1.cell 3; have a4 := k1.cell 4; have a5 := k1.cell 5; simp at a0 a1 a2 a3 a4 a5; have K1 := Lib.hid k1; clear hx k1)
    | (go_at_call 32; (with_reducible refine (CM.out _).mono ?_); rintro e w2 ⟨rfl, hx⟩; have HX2 : Hid (Below w.heap.size w w2) := HX1.out.trans (hx.mono HX1.out.size); have k1 := K1.out.stay hx; have b0 := k1.cell 0; have b1 := k1.cell 1; have b2 := k1.cell 2; have b3 := k1.cell 3; have b4 := k1.cell 4; have b5 := k1.cell 5; simp at b0 b1 b2 b3 b4 b5; clear hx k1)
    | (go_at_call 33; (with_reducible refine (CW.out _).mono ?_); rintro e w3 ⟨rfl, hx⟩; have HX3 : Hid (Below w.heap.size w w3) := HX2.out.trans (hx.mono HX2.out.size); clear hx))
  try go_ret
  exact hD.out _ _ ⟨rfl, HX3.out⟩

set_option maxRecDepth 8000 in
set_option maxHeartbeats 8000000 in
theorem kinds_3_t_p (kind mt : Int) (m : Int) (h0 : 0 < m) (h3 : m ≤ 3) (w : World) (ha : (IntKind.u64.wrap kind).tmod 6 = 2) (hm : (IntKind.u64.wrap mt).tmod 4 = m) :
    Calls Try.prog 12 #[.int .i64 kind, .int .i64 mt, .bool true] w fun e w' => e = .returned (.bool true) ∧ Below w.heap.size w w' := by
  refine hide_post fun D hD => ?_
  have hmz : ¬ m = 0 := by omega
  have HT : Hid (∀ V, Calls Try.prog 29 #[] V fun e w' => e = .returned (.bool true) ∧ Ext V w') := told2
  obtain ⟨W0, hW0⟩ : ∃ W0, W0 = w.alloc (.cells #[.int .i64 0, .int .i64 1, .int .i64 3, .int .i64 0, .int .i64 m, .string ⟨#[120]⟩] 30) := ⟨_, rfl⟩
  have kB : Blk W0 w.heap.size 30 #[.int .i64 0, .int .i64 1, .int .i64 3, .int .i64 0, .int .i64 m, .string ⟨#[120]⟩] := by rw [hW0]; exact Blk.new _ _ _
  have hx0 : Ext w W0 := by rw [hW0]; exact Ext.alloc _ _
  have hb : Blk W0 w.heap.size 30 #[.int .i64 0, .int .i64 1, .int .i64 3, .int .i64 0, .int .i64 m, .string ⟨#[120]⟩] := kB
  have hxx : Below w.heap.size w W0 := hx0
  have KB := Lib.hid hb
  have HXX := Lib.hid hxx
  have HW0 := Lib.hid hW0
  have CM : Hid (∀ V, Calls Try.prog 32 #[.agg #[.int .i64 0, .int .i64 1, .int .i64 3, .int .i64 0, .int .i64 m, .string ⟨#[120]⟩]] V fun e w' => e = .returned (.bool false) ∧ Ext V w') := fun V => by
    have h := mayReq_any 0 1 3 0 m ⟨#[120]⟩ V (by decide)
    rw [show mayReqB 0 1 3 0 m (ByteArray.size ⟨#[120]⟩) = false by unfold mayReqB; simp [ByteArray.size] <;> omega] at h
    exact h
  have CW : Hid (∀ V, Calls Try.prog 33 #[.agg #[.int .i64 0, .int .i64 1, .int .i64 3, .int .i64 0, .int .i64 m, .string ⟨#[120]⟩]] V fun e w' => e = .returned (.bool true) ∧ Ext V w') := fun V => writes_any 0 1 3 0 m ⟨#[120]⟩ V
  clear kB hx0 hb hxx hW0
  go_enter Try.func12, Try.ntmps12
  go_wp2_with fail
  try rw [← HW0.out]
  go_wp2_with (first
    | (go_at_call 29; (with_reducible refine (HT.out _).mono ?_); rintro e w1 ⟨rfl, hx⟩; have HX1 : Hid (Below w.heap.size w w1) := HXX.out.trans (hx.mono HXX.out.size); have k1 := KB.out.stay hx; have a0 := k1.cell 0; have a1 := k1.cell 1; have a2 := k1.cell 2; have a3 := k1.cell 3; have a4 := k1.cell 4; have a5 := k1.cell 5; simp at a0 a1 a2 a3 a4 a5; have K1 := Lib.hid k1; clear hx k1)
    | (go_at_call 32; (with_reducible refine (CM.out _).mono ?_); rintro e w2 ⟨rfl, hx⟩; have HX2 : Hid (Below w.heap.size w w2) := HX1.out.trans (hx.mono HX1.out.size); have k1 := K1.out.stay hx; have b0 := k1.cell 0; have b1 := k1.cell 1; have b2 := k1.cell 2; have b3 := k1.cell 3; have b4 := k1.cell 4; have b5 := k1.cell 5; simp at b0 b1 b2 b3 b4 b5; clear hx k1)
    | (go_at_call 33; (with_reducible refine (CW.out _).mono ?_); rintro e w3 ⟨rfl, hx⟩; have HX3 : Hid (Below w.heap.size w w3) := HX2.out.trans (hx.mono HX2.out.size); clear hx))
  try go_ret
  exact hD.out _ _ ⟨by first | rfl | (simp [hmz, h0]; done), HX3.out⟩

set_option maxRecDepth 8000 in
set_option maxHeartbeats 8000000 in
theorem kinds_4_f_z (kind mt : Int) (w : World) (ha : (IntKind.u64.wrap kind).tmod 6 = 3) (hm : (IntKind.u64.wrap mt).tmod 4 = 0) :
    Calls Try.prog 12 #[.int .i64 kind, .int .i64 mt, .bool false] w fun e w' => e = .returned (.bool true) ∧ Below w.heap.size w w' := by
  refine hide_post fun D hD => ?_

  have HT : Hid (∀ V, Calls Try.prog 29 #[] V fun e w' => e = .returned (.bool true) ∧ Ext V w') := told2
  obtain ⟨W0, hW0⟩ : ∃ W0, W0 = w.alloc (.cells #[.int .i64 0, .int .i64 1, .int .i64 4, .int .i64 0, .int .i64 0, .string ⟨#[]⟩] 30) := ⟨_, rfl⟩
  have kB : Blk W0 w.heap.size 30 #[.int .i64 0, .int .i64 1, .int .i64 4, .int .i64 0, .int .i64 0, .string ⟨#[]⟩] := by rw [hW0]; exact Blk.new _ _ _
  have hx0 : Ext w W0 := by rw [hW0]; exact Ext.alloc _ _
  have hb : Blk W0 w.heap.size 30 #[.int .i64 0, .int .i64 1, .int .i64 4, .int .i64 0, .int .i64 0, .string ⟨#[]⟩] := kB
  have hxx : Below w.heap.size w W0 := hx0
  have KB := Lib.hid hb
  have HXX := Lib.hid hxx
  have HW0 := Lib.hid hW0
  have CM : Hid (∀ V, Calls Try.prog 32 #[.agg #[.int .i64 0, .int .i64 1, .int .i64 4, .int .i64 0, .int .i64 0, .string ⟨#[]⟩]] V fun e w' => e = .returned (.bool true) ∧ Ext V w') := fun V => by
    have h := mayReq_any 0 1 4 0 0 ⟨#[]⟩ V (by decide)
    rw [show mayReqB 0 1 4 0 0 (ByteArray.size ⟨#[]⟩) = true by decide] at h
    exact h
  have CW : Hid (∀ V, Calls Try.prog 33 #[.agg #[.int .i64 0, .int .i64 1, .int .i64 4, .int .i64 0, .int .i64 0, .string ⟨#[]⟩]] V fun e w' => e = .returned (.bool false) ∧ Ext V w') := fun V => writes_any 0 1 4 0 0 ⟨#[]⟩ V
  clear kB hx0 hb hxx hW0
  go_enter Try.func12, Try.ntmps12
  go_wp2_with fail
  try rw [← HW0.out]
  go_wp2_with (first
    | (go_at_call 29; (with_reducible refine (HT.out _).mono ?_); rintro e w1 ⟨rfl, hx⟩; have HX1 : Hid (Below w.heap.size w w1) := HXX.out.trans (hx.mono HXX.out.size); have k1 := KB.out.stay hx; have a0 := k1.cell 0; have a1 := k1.cell 1; have a2 := k1.cell 2; have a3 := k1.cell 3; have a4 := k1.cell 4; have a5 := k1.cell 5; simp at a0 a1 a2 a3 a4 a5; have K1 := Lib.hid k1; clear hx k1)
    | (go_at_call 32; (with_reducible refine (CM.out _).mono ?_); rintro e w2 ⟨rfl, hx⟩; have HX2 : Hid (Below w.heap.size w w2) := HX1.out.trans (hx.mono HX1.out.size); have k1 := K1.out.stay hx; have b0 := k1.cell 0; have b1 := k1.cell 1; have b2 := k1.cell 2; have b3 := k1.cell 3; have b4 := k1.cell 4; have b5 := k1.cell 5; simp at b0 b1 b2 b3 b4 b5; clear hx k1)
    | (go_at_call 33; (with_reducible refine (CW.out _).mono ?_); rintro e w3 ⟨rfl, hx⟩; have HX3 : Hid (Below w.heap.size w w3) := HX2.out.trans (hx.mono HX2.out.size); clear hx))
  try go_ret
  exact hD.out _ _ ⟨rfl, HX3.out⟩

set_option maxRecDepth 8000 in
set_option maxHeartbeats 8000000 in
theorem kinds_4_f_p (kind mt : Int) (m : Int) (h0 : 0 < m) (h3 : m ≤ 3) (w : World) (ha : (IntKind.u64.wrap kind).tmod 6 = 3) (hm : (IntKind.u64.wrap mt).tmod 4 = m) :
    Calls Try.prog 12 #[.int .i64 kind, .int .i64 mt, .bool false] w fun e w' => e = .returned (.bool true) ∧ Below w.heap.size w w' := by
  refine hide_post fun D hD => ?_
  have hmz : ¬ m = 0 := by omega
  have HT : Hid (∀ V, Calls Try.prog 29 #[] V fun e w' => e = .returned (.bool true) ∧ Ext V w') := told2
  obtain ⟨W0, hW0⟩ : ∃ W0, W0 = w.alloc (.cells #[.int .i64 0, .int .i64 1, .int .i64 4, .int .i64 0, .int .i64 m, .string ⟨#[]⟩] 30) := ⟨_, rfl⟩
  have kB : Blk W0 w.heap.size 30 #[.int .i64 0, .int .i64 1, .int .i64 4, .int .i64 0, .int .i64 m, .string ⟨#[]⟩] := by rw [hW0]; exact Blk.new _ _ _
  have hx0 : Ext w W0 := by rw [hW0]; exact Ext.alloc _ _
  have hb : Blk W0 w.heap.size 30 #[.int .i64 0, .int .i64 1, .int .i64 4, .int .i64 0, .int .i64 m, .string ⟨#[]⟩] := kB
  have hxx : Below w.heap.size w W0 := hx0
  have KB := Lib.hid hb
  have HXX := Lib.hid hxx
  have HW0 := Lib.hid hW0
  have CM : Hid (∀ V, Calls Try.prog 32 #[.agg #[.int .i64 0, .int .i64 1, .int .i64 4, .int .i64 0, .int .i64 m, .string ⟨#[]⟩]] V fun e w' => e = .returned (.bool false) ∧ Ext V w') := fun V => by
    have h := mayReq_any 0 1 4 0 m ⟨#[]⟩ V (by decide)
    rw [show mayReqB 0 1 4 0 m (ByteArray.size ⟨#[]⟩) = false by unfold mayReqB; simp [ByteArray.size] <;> omega] at h
    exact h
  have CW : Hid (∀ V, Calls Try.prog 33 #[.agg #[.int .i64 0, .int .i64 1, .int .i64 4, .int .i64 0, .int .i64 m, .string ⟨#[]⟩]] V fun e w' => e = .returned (.bool false) ∧ Ext V w') := fun V => writes_any 0 1 4 0 m ⟨#[]⟩ V
  clear kB hx0 hb hxx hW0
  go_enter Try.func12, Try.ntmps12
  go_wp2_with fail
  try rw [← HW0.out]
  go_wp2_with (first
    | (go_at_call 29; (with_reducible refine (HT.out _).mono ?_); rintro e w1 ⟨rfl, hx⟩; have HX1 : Hid (Below w.heap.size w w1) := HXX.out.trans (hx.mono HXX.out.size); have k1 := KB.out.stay hx; have a0 := k1.cell 0; have a1 := k1.cell 1; have a2 := k1.cell 2; have a3 := k1.cell 3; have a4 := k1.cell 4; have a5 := k1.cell 5; simp at a0 a1 a2 a3 a4 a5; have K1 := Lib.hid k1; clear hx k1)
    | (go_at_call 32; (with_reducible refine (CM.out _).mono ?_); rintro e w2 ⟨rfl, hx⟩; have HX2 : Hid (Below w.heap.size w w2) := HX1.out.trans (hx.mono HX1.out.size); have k1 := K1.out.stay hx; have b0 := k1.cell 0; have b1 := k1.cell 1; have b2 := k1.cell 2; have b3 := k1.cell 3; have b4 := k1.cell 4; have b5 := k1.cell 5; simp at b0 b1 b2 b3 b4 b5; clear hx k1)
    | (go_at_call 33; (with_reducible refine (CW.out _).mono ?_); rintro e w3 ⟨rfl, hx⟩; have HX3 : Hid (Below w.heap.size w w3) := HX2.out.trans (hx.mono HX2.out.size); clear hx))
  try go_ret
  exact hD.out _ _ ⟨by first | rfl | (simp [hmz, h0]; done), HX3.out⟩

set_option maxRecDepth 8000 in
set_option maxHeartbeats 8000000 in
theorem kinds_4_t_z (kind mt : Int) (w : World) (ha : (IntKind.u64.wrap kind).tmod 6 = 3) (hm : (IntKind.u64.wrap mt).tmod 4 = 0) :
    Calls Try.prog 12 #[.int .i64 kind, .int .i64 mt, .bool true] w fun e w' => e = .returned (.bool true) ∧ Below w.heap.size w w' := by
  refine hide_post fun D hD => ?_

  have HT : Hid (∀ V, Calls Try.prog 29 #[] V fun e w' => e = .returned (.bool true) ∧ Ext V w') := told2
  obtain ⟨W0, hW0⟩ : ∃ W0, W0 = w.alloc (.cells #[.int .i64 0, .int .i64 1, .int .i64 4, .int .i64 0, .int .i64 0, .string ⟨#[120]⟩] 30) := ⟨_, rfl⟩
  have kB : Blk W0 w.heap.size 30 #[.int .i64 0, .int .i64 1, .int .i64 4, .int .i64 0, .int .i64 0, .string ⟨#[120]⟩] := by rw [hW0]; exact Blk.new _ _ _
  have hx0 : Ext w W0 := by rw [hW0]; exact Ext.alloc _ _
  have hb : Blk W0 w.heap.size 30 #[.int .i64 0, .int .i64 1, .int .i64 4, .int .i64 0, .int .i64 0, .string ⟨#[120]⟩] := kB
  have hxx : Below w.heap.size w W0 := hx0
  have KB := Lib.hid hb
  have HXX := Lib.hid hxx
  have HW0 := Lib.hid hW0
  have CM : Hid (∀ V, Calls Try.prog 32 #[.agg #[.int .i64 0, .int .i64 1, .int .i64 4, .int .i64 0, .int .i64 0, .string ⟨#[120]⟩]] V fun e w' => e = .returned (.bool false) ∧ Ext V w') := fun V => by
    have h := mayReq_any 0 1 4 0 0 ⟨#[120]⟩ V (by decide)
    rw [show mayReqB 0 1 4 0 0 (ByteArray.size ⟨#[120]⟩) = false by decide] at h
    exact h
  have CW : Hid (∀ V, Calls Try.prog 33 #[.agg #[.int .i64 0, .int .i64 1, .int .i64 4, .int .i64 0, .int .i64 0, .string ⟨#[120]⟩]] V fun e w' => e = .returned (.bool false) ∧ Ext V w') := fun V => writes_any 0 1 4 0 0 ⟨#[120]⟩ V
  clear kB hx0 hb hxx hW0
  go_enter Try.func12, Try.ntmps12
  go_wp2_with fail
  try rw [← HW0.out]
  go_wp2_with (first
    | (go_at_call 29; (with_reducible refine (HT.out _).mono ?_); rintro e w1 ⟨rfl, hx⟩; have HX1 : Hid (Below w.heap.size w w1) := HXX.out.trans (hx.mono HXX.out.size); have k1 := KB.out.stay hx; have a0 := k1.cell 0; have a1 := k1.cell 1; have a2 := k1.cell 2; have a3 := k1.cell 3; have a4 := k1.cell 4; have a5 := k1.cell 5; simp at a0 a1 a2 a3 a4 a5; have K1 := Lib.hid k1; clear hx k1)
    | (go_at_call 32; (with_reducible refine (CM.out _).mono ?_); rintro e w2 ⟨rfl, hx⟩; have HX2 : Hid (Below w.heap.size w w2) := HX1.out.trans (hx.mono HX1.out.size); have k1 := K1.out.stay hx; have b0 := k1.cell 0; have b1 := k1.cell 1; have b2 := k1.cell 2; have b3 := k1.cell 3; have b4 := k1.cell 4; have b5 := k1.cell 5; simp at b0 b1 b2 b3 b4 b5; clear hx k1)
    | (go_at_call 33; (with_reducible refine (CW.out _).mono ?_); rintro e w3 ⟨rfl, hx⟩; have HX3 : Hid (Below w.heap.size w w3) := HX2.out.trans (hx.mono HX2.out.size); clear hx))
  try go_ret
  exact hD.out _ _ ⟨rfl, HX3.out⟩

set_option maxRecDepth 8000 in
set_option maxHeartbeats 8000000 in
theorem kinds_4_t_p (kind mt : Int) (m : Int) (h0 : 0 < m) (h3 : m ≤ 3) (w : World) (ha : (IntKind.u64.wrap kind).tmod 6 = 3) (hm : (IntKind.u64.wrap mt).tmod 4 = m) :
    Calls Try.prog 12 #[.int .i64 kind, .int .i64 mt, .bool true] w fun e w' => e = .returned (.bool true) ∧ Below w.heap.size w w' := by
  refine hide_post fun D hD => ?_
  have hmz : ¬ m = 0 := by omega
  have HT : Hid (∀ V, Calls Try.prog 29 #[] V fun e w' => e = .returned (.bool true) ∧ Ext V w') := told2
  obtain ⟨W0, hW0⟩ : ∃ W0, W0 = w.alloc (.cells #[.int .i64 0, .int .i64 1, .int .i64 4, .int .i64 0, .int .i64 m, .string ⟨#[120]⟩] 30) := ⟨_, rfl⟩
  have kB : Blk W0 w.heap.size 30 #[.int .i64 0, .int .i64 1, .int .i64 4, .int .i64 0, .int .i64 m, .string ⟨#[120]⟩] := by rw [hW0]; exact Blk.new _ _ _
  have hx0 : Ext w W0 := by rw [hW0]; exact Ext.alloc _ _
  have hb : Blk W0 w.heap.size 30 #[.int .i64 0, .int .i64 1, .int .i64 4, .int .i64 0, .int .i64 m, .string ⟨#[120]⟩] := kB
  have hxx : Below w.heap.size w W0 := hx0
  have KB := Lib.hid hb
  have HXX := Lib.hid hxx
  have HW0 := Lib.hid hW0
  have CM : Hid (∀ V, Calls Try.prog 32 #[.agg #[.int .i64 0, .int .i64 1, .int .i64 4, .int .i64 0, .int .i64 m, .string ⟨#[120]⟩]] V fun e w' => e = .returned (.bool false) ∧ Ext V w') := fun V => by
    have h := mayReq_any 0 1 4 0 m ⟨#[120]⟩ V (by decide)
    rw [show mayReqB 0 1 4 0 m (ByteArray.size ⟨#[120]⟩) = false by unfold mayReqB; simp [ByteArray.size] <;> omega] at h
    exact h
  have CW : Hid (∀ V, Calls Try.prog 33 #[.agg #[.int .i64 0, .int .i64 1, .int .i64 4, .int .i64 0, .int .i64 m, .string ⟨#[120]⟩]] V fun e w' => e = .returned (.bool false) ∧ Ext V w') := fun V => writes_any 0 1 4 0 m ⟨#[120]⟩ V
  clear kB hx0 hb hxx hW0
  go_enter Try.func12, Try.ntmps12
  go_wp2_with fail
  try rw [← HW0.out]
  go_wp2_with (first
    | (go_at_call 29; (with_reducible refine (HT.out _).mono ?_); rintro e w1 ⟨rfl, hx⟩; have HX1 : Hid (Below w.heap.size w w1) := HXX.out.trans (hx.mono HXX.out.size); have k1 := KB.out.stay hx; have a0 := k1.cell 0; have a1 := k1.cell 1; have a2 := k1.cell 2; have a3 := k1.cell 3; have a4 := k1.cell 4; have a5 := k1.cell 5; simp at a0 a1 a2 a3 a4 a5; have K1 := Lib.hid k1; clear hx k1)
    | (go_at_call 32; (with_reducible refine (CM.out _).mono ?_); rintro e w2 ⟨rfl, hx⟩; have HX2 : Hid (Below w.heap.size w w2) := HX1.out.trans (hx.mono HX1.out.size); have k1 := K1.out.stay hx; have b0 := k1.cell 0; have b1 := k1.cell 1; have b2 := k1.cell 2; have b3 := k1.cell 3; have b4 := k1.cell 4; have b5 := k1.cell 5; simp at b0 b1 b2 b3 b4 b5; clear hx k1)
    | (go_at_call 33; (with_reducible refine (CW.out _).mono ?_); rintro e w3 ⟨rfl, hx⟩; have HX3 : Hid (Below w.heap.size w w3) := HX2.out.trans (hx.mono HX2.out.size); clear hx))
  try go_ret
  exact hD.out _ _ ⟨by first | rfl | (simp [hmz, h0]; done), HX3.out⟩

set_option maxRecDepth 8000 in
set_option maxHeartbeats 8000000 in
theorem kinds_5_f_z (kind mt : Int) (w : World) (ha : (IntKind.u64.wrap kind).tmod 6 = 4) (hm : (IntKind.u64.wrap mt).tmod 4 = 0) :
    Calls Try.prog 12 #[.int .i64 kind, .int .i64 mt, .bool false] w fun e w' => e = .returned (.bool true) ∧ Below w.heap.size w w' := by
  refine hide_post fun D hD => ?_

  have HT : Hid (∀ V, Calls Try.prog 29 #[] V fun e w' => e = .returned (.bool true) ∧ Ext V w') := told2
  obtain ⟨W0, hW0⟩ : ∃ W0, W0 = w.alloc (.cells #[.int .i64 0, .int .i64 1, .int .i64 5, .int .i64 0, .int .i64 0, .string ⟨#[]⟩] 30) := ⟨_, rfl⟩
  have kB : Blk W0 w.heap.size 30 #[.int .i64 0, .int .i64 1, .int .i64 5, .int .i64 0, .int .i64 0, .string ⟨#[]⟩] := by rw [hW0]; exact Blk.new _ _ _
  have hx0 : Ext w W0 := by rw [hW0]; exact Ext.alloc _ _
  have hb : Blk W0 w.heap.size 30 #[.int .i64 0, .int .i64 1, .int .i64 5, .int .i64 0, .int .i64 0, .string ⟨#[]⟩] := kB
  have hxx : Below w.heap.size w W0 := hx0
  have KB := Lib.hid hb
  have HXX := Lib.hid hxx
  have HW0 := Lib.hid hW0
  have CM : Hid (∀ V, Calls Try.prog 32 #[.agg #[.int .i64 0, .int .i64 1, .int .i64 5, .int .i64 0, .int .i64 0, .string ⟨#[]⟩]] V fun e w' => e = .returned (.bool false) ∧ Ext V w') := fun V => by
    have h := mayReq_any 0 1 5 0 0 ⟨#[]⟩ V (by decide)
    rw [show mayReqB 0 1 5 0 0 (ByteArray.size ⟨#[]⟩) = false by decide] at h
    exact h
  have CW : Hid (∀ V, Calls Try.prog 33 #[.agg #[.int .i64 0, .int .i64 1, .int .i64 5, .int .i64 0, .int .i64 0, .string ⟨#[]⟩]] V fun e w' => e = .returned (.bool false) ∧ Ext V w') := fun V => writes_any 0 1 5 0 0 ⟨#[]⟩ V
  clear kB hx0 hb hxx hW0
  go_enter Try.func12, Try.ntmps12
  go_wp2_with fail
  try rw [← HW0.out]
  go_wp2_with (first
    | (go_at_call 29; (with_reducible refine (HT.out _).mono ?_); rintro e w1 ⟨rfl, hx⟩; have HX1 : Hid (Below w.heap.size w w1) := HXX.out.trans (hx.mono HXX.out.size); have k1 := KB.out.stay hx; have a0 := k1.cell 0; have a1 := k1.cell 1; have a2 := k1.cell 2; have a3 := k1.cell 3; have a4 := k1.cell 4; have a5 := k1.cell 5; simp at a0 a1 a2 a3 a4 a5; have K1 := Lib.hid k1; clear hx k1)
    | (go_at_call 32; (with_reducible refine (CM.out _).mono ?_); rintro e w2 ⟨rfl, hx⟩; have HX2 : Hid (Below w.heap.size w w2) := HX1.out.trans (hx.mono HX1.out.size); have k1 := K1.out.stay hx; have b0 := k1.cell 0; have b1 := k1.cell 1; have b2 := k1.cell 2; have b3 := k1.cell 3; have b4 := k1.cell 4; have b5 := k1.cell 5; simp at b0 b1 b2 b3 b4 b5; clear hx k1)
    | (go_at_call 33; (with_reducible refine (CW.out _).mono ?_); rintro e w3 ⟨rfl, hx⟩; have HX3 : Hid (Below w.heap.size w w3) := HX2.out.trans (hx.mono HX2.out.size); clear hx))
  try go_ret
  exact hD.out _ _ ⟨rfl, HX3.out⟩

set_option maxRecDepth 8000 in
set_option maxHeartbeats 8000000 in
theorem kinds_5_f_p (kind mt : Int) (m : Int) (h0 : 0 < m) (h3 : m ≤ 3) (w : World) (ha : (IntKind.u64.wrap kind).tmod 6 = 4) (hm : (IntKind.u64.wrap mt).tmod 4 = m) :
    Calls Try.prog 12 #[.int .i64 kind, .int .i64 mt, .bool false] w fun e w' => e = .returned (.bool true) ∧ Below w.heap.size w w' := by
  refine hide_post fun D hD => ?_
  have hmz : ¬ m = 0 := by omega
  have HT : Hid (∀ V, Calls Try.prog 29 #[] V fun e w' => e = .returned (.bool true) ∧ Ext V w') := told2
  obtain ⟨W0, hW0⟩ : ∃ W0, W0 = w.alloc (.cells #[.int .i64 0, .int .i64 1, .int .i64 5, .int .i64 0, .int .i64 m, .string ⟨#[]⟩] 30) := ⟨_, rfl⟩
  have kB : Blk W0 w.heap.size 30 #[.int .i64 0, .int .i64 1, .int .i64 5, .int .i64 0, .int .i64 m, .string ⟨#[]⟩] := by rw [hW0]; exact Blk.new _ _ _
  have hx0 : Ext w W0 := by rw [hW0]; exact Ext.alloc _ _
  have hb : Blk W0 w.heap.size 30 #[.int .i64 0, .int .i64 1, .int .i64 5, .int .i64 0, .int .i64 m, .string ⟨#[]⟩] := kB
  have hxx : Below w.heap.size w W0 := hx0
  have KB := Lib.hid hb
  have HXX := Lib.hid hxx
  have HW0 := Lib.hid hW0
  have CM : Hid (∀ V, Calls Try.prog 32 #[.agg #[.int .i64 0, .int .i64 1, .int .i64 5, .int .i64 0, .int .i64 m, .string ⟨#[]⟩]] V fun e w' => e = .returned (.bool true) ∧ Ext V w') := fun V => by
    have h := mayReq_any 0 1 5 0 m ⟨#[]⟩ V (by decide)
    rw [show mayReqB 0 1 5 0 m (ByteArray.size ⟨#[]⟩) = true by unfold mayReqB; simp [ByteArray.size] <;> omega] at h
    exact h
  have CW : Hid (∀ V, Calls Try.prog 33 #[.agg #[.int .i64 0, .int .i64 1, .int .i64 5, .int .i64 0, .int .i64 m, .string ⟨#[]⟩]] V fun e w' => e = .returned (.bool false) ∧ Ext V w') := fun V => writes_any 0 1 5 0 m ⟨#[]⟩ V
  clear kB hx0 hb hxx hW0
  go_enter Try.func12, Try.ntmps12
  go_wp2_with fail
  try rw [← HW0.out]
  go_wp2_with (first
    | (go_at_call 29; (with_reducible refine (HT.out _).mono ?_); rintro e w1 ⟨rfl, hx⟩; have HX1 : Hid (Below w.heap.size w w1) := HXX.out.trans (hx.mono HXX.out.size); have k1 := KB.out.stay hx; have a0 := k1.cell 0; have a1 := k1.cell 1; have a2 := k1.cell 2; have a3 := k1.cell 3; have a4 := k1.cell 4; have a5 := k1.cell 5; simp at a0 a1 a2 a3 a4 a5; have K1 := Lib.hid k1; clear hx k1)
    | (go_at_call 32; (with_reducible refine (CM.out _).mono ?_); rintro e w2 ⟨rfl, hx⟩; have HX2 : Hid (Below w.heap.size w w2) := HX1.out.trans (hx.mono HX1.out.size); have k1 := K1.out.stay hx; have b0 := k1.cell 0; have b1 := k1.cell 1; have b2 := k1.cell 2; have b3 := k1.cell 3; have b4 := k1.cell 4; have b5 := k1.cell 5; simp at b0 b1 b2 b3 b4 b5; clear hx k1)
    | (go_at_call 33; (with_reducible refine (CW.out _).mono ?_); rintro e w3 ⟨rfl, hx⟩; have HX3 : Hid (Below w.heap.size w w3) := HX2.out.trans (hx.mono HX2.out.size); clear hx))
  try go_ret
  exact hD.out _ _ ⟨by first | rfl | (simp [hmz, h0]; done), HX3.out⟩

set_option maxRecDepth 8000 in
set_option maxHeartbeats 8000000 in
theorem kinds_5_t_z (kind mt : Int) (w : World) (ha : (IntKind.u64.wrap kind).tmod 6 = 4) (hm : (IntKind.u64.wrap mt).tmod 4 = 0) :
    Calls Try.prog 12 #[.int .i64 kind, .int .i64 mt, .bool true] w fun e w' => e = .returned (.bool true) ∧ Below w.heap.size w w' := by
  refine hide_post fun D hD => ?_

  have HT : Hid (∀ V, Calls Try.prog 29 #[] V fun e w' => e = .returned (.bool true) ∧ Ext V w') := told2
  obtain ⟨W0, hW0⟩ : ∃ W0, W0 = w.alloc (.cells #[.int .i64 0, .int .i64 1, .int .i64 5, .int .i64 0, .int .i64 0, .string ⟨#[120]⟩] 30) := ⟨_, rfl⟩
  have kB : Blk W0 w.heap.size 30 #[.int .i64 0, .int .i64 1, .int .i64 5, .int .i64 0, .int .i64 0, .string ⟨#[120]⟩] := by rw [hW0]; exact Blk.new _ _ _
  have hx0 : Ext w W0 := by rw [hW0]; exact Ext.alloc _ _
  have hb : Blk W0 w.heap.size 30 #[.int .i64 0, .int .i64 1, .int .i64 5, .int .i64 0, .int .i64 0, .string ⟨#[120]⟩] := kB
  have hxx : Below w.heap.size w W0 := hx0
  have KB := Lib.hid hb
  have HXX := Lib.hid hxx
  have HW0 := Lib.hid hW0
  have CM : Hid (∀ V, Calls Try.prog 32 #[.agg #[.int .i64 0, .int .i64 1, .int .i64 5, .int .i64 0, .int .i64 0, .string ⟨#[120]⟩]] V fun e w' => e = .returned (.bool false) ∧ Ext V w') := fun V => by
    have h := mayReq_any 0 1 5 0 0 ⟨#[120]⟩ V (by decide)
    rw [show mayReqB 0 1 5 0 0 (ByteArray.size ⟨#[120]⟩) = false by decide] at h
    exact h
  have CW : Hid (∀ V, Calls Try.prog 33 #[.agg #[.int .i64 0, .int .i64 1, .int .i64 5, .int .i64 0, .int .i64 0, .string ⟨#[120]⟩]] V fun e w' => e = .returned (.bool false) ∧ Ext V w') := fun V => writes_any 0 1 5 0 0 ⟨#[120]⟩ V
  clear kB hx0 hb hxx hW0
  go_enter Try.func12, Try.ntmps12
  go_wp2_with fail
  try rw [← HW0.out]
  go_wp2_with (first
    | (go_at_call 29; (with_reducible refine (HT.out _).mono ?_); rintro e w1 ⟨rfl, hx⟩; have HX1 : Hid (Below w.heap.size w w1) := HXX.out.trans (hx.mono HXX.out.size); have k1 := KB.out.stay hx; have a0 := k1.cell 0; have a1 := k1.cell 1; have a2 := k1.cell 2; have a3 := k1.cell 3; have a4 := k1.cell 4; have a5 := k1.cell 5; simp at a0 a1 a2 a3 a4 a5; have K1 := Lib.hid k1; clear hx k1)
    | (go_at_call 32; (with_reducible refine (CM.out _).mono ?_); rintro e w2 ⟨rfl, hx⟩; have HX2 : Hid (Below w.heap.size w w2) := HX1.out.trans (hx.mono HX1.out.size); have k1 := K1.out.stay hx; have b0 := k1.cell 0; have b1 := k1.cell 1; have b2 := k1.cell 2; have b3 := k1.cell 3; have b4 := k1.cell 4; have b5 := k1.cell 5; simp at b0 b1 b2 b3 b4 b5; clear hx k1)
    | (go_at_call 33; (with_reducible refine (CW.out _).mono ?_); rintro e w3 ⟨rfl, hx⟩; have HX3 : Hid (Below w.heap.size w w3) := HX2.out.trans (hx.mono HX2.out.size); clear hx))
  try go_ret
  exact hD.out _ _ ⟨rfl, HX3.out⟩

set_option maxRecDepth 8000 in
set_option maxHeartbeats 8000000 in
theorem kinds_5_t_p (kind mt : Int) (m : Int) (h0 : 0 < m) (h3 : m ≤ 3) (w : World) (ha : (IntKind.u64.wrap kind).tmod 6 = 4) (hm : (IntKind.u64.wrap mt).tmod 4 = m) :
    Calls Try.prog 12 #[.int .i64 kind, .int .i64 mt, .bool true] w fun e w' => e = .returned (.bool true) ∧ Below w.heap.size w w' := by
  refine hide_post fun D hD => ?_
  have hmz : ¬ m = 0 := by omega
  have HT : Hid (∀ V, Calls Try.prog 29 #[] V fun e w' => e = .returned (.bool true) ∧ Ext V w') := told2
  obtain ⟨W0, hW0⟩ : ∃ W0, W0 = w.alloc (.cells #[.int .i64 0, .int .i64 1, .int .i64 5, .int .i64 0, .int .i64 m, .string ⟨#[120]⟩] 30) := ⟨_, rfl⟩
  have kB : Blk W0 w.heap.size 30 #[.int .i64 0, .int .i64 1, .int .i64 5, .int .i64 0, .int .i64 m, .string ⟨#[120]⟩] := by rw [hW0]; exact Blk.new _ _ _
  have hx0 : Ext w W0 := by rw [hW0]; exact Ext.alloc _ _
  have hb : Blk W0 w.heap.size 30 #[.int .i64 0, .int .i64 1, .int .i64 5, .int .i64 0, .int .i64 m, .string ⟨#[120]⟩] := kB
  have hxx : Below w.heap.size w W0 := hx0
  have KB := Lib.hid hb
  have HXX := Lib.hid hxx
  have HW0 := Lib.hid hW0
  have CM : Hid (∀ V, Calls Try.prog 32 #[.agg #[.int .i64 0, .int .i64 1, .int .i64 5, .int .i64 0, .int .i64 m, .string ⟨#[120]⟩]] V fun e w' => e = .returned (.bool false) ∧ Ext V w') := fun V => by
    have h := mayReq_any 0 1 5 0 m ⟨#[120]⟩ V (by decide)
    rw [show mayReqB 0 1 5 0 m (ByteArray.size ⟨#[120]⟩) = false by unfold mayReqB; simp [ByteArray.size] <;> omega] at h
    exact h
  have CW : Hid (∀ V, Calls Try.prog 33 #[.agg #[.int .i64 0, .int .i64 1, .int .i64 5, .int .i64 0, .int .i64 m, .string ⟨#[120]⟩]] V fun e w' => e = .returned (.bool false) ∧ Ext V w') := fun V => writes_any 0 1 5 0 m ⟨#[120]⟩ V
  clear kB hx0 hb hxx hW0
  go_enter Try.func12, Try.ntmps12
  go_wp2_with fail
  try rw [← HW0.out]
  go_wp2_with (first
    | (go_at_call 29; (with_reducible refine (HT.out _).mono ?_); rintro e w1 ⟨rfl, hx⟩; have HX1 : Hid (Below w.heap.size w w1) := HXX.out.trans (hx.mono HXX.out.size); have k1 := KB.out.stay hx; have a0 := k1.cell 0; have a1 := k1.cell 1; have a2 := k1.cell 2; have a3 := k1.cell 3; have a4 := k1.cell 4; have a5 := k1.cell 5; simp at a0 a1 a2 a3 a4 a5; have K1 := Lib.hid k1; clear hx k1)
    | (go_at_call 32; (with_reducible refine (CM.out _).mono ?_); rintro e w2 ⟨rfl, hx⟩; have HX2 : Hid (Below w.heap.size w w2) := HX1.out.trans (hx.mono HX1.out.size); have k1 := K1.out.stay hx; have b0 := k1.cell 0; have b1 := k1.cell 1; have b2 := k1.cell 2; have b3 := k1.cell 3; have b4 := k1.cell 4; have b5 := k1.cell 5; simp at b0 b1 b2 b3 b4 b5; clear hx k1)
    | (go_at_call 33; (with_reducible refine (CW.out _).mono ?_); rintro e w3 ⟨rfl, hx⟩; have HX3 : Hid (Below w.heap.size w w3) := HX2.out.trans (hx.mono HX2.out.size); clear hx))
  try go_ret
  exact hD.out _ _ ⟨by first | rfl | (simp [hmz, h0]; done), HX3.out⟩

set_option maxRecDepth 8000 in
set_option maxHeartbeats 8000000 in
theorem kinds_6_f_z (kind mt : Int) (w : World) (ha : (IntKind.u64.wrap kind).tmod 6 = 5) (hm : (IntKind.u64.wrap mt).tmod 4 = 0) :
    Calls Try.prog 12 #[.int .i64 kind, .int .i64 mt, .bool false] w fun e w' => e = .returned (.bool true) ∧ Below w.heap.size w w' := by
  refine hide_post fun D hD => ?_

  have HT : Hid (∀ V, Calls Try.prog 29 #[] V fun e w' => e = .returned (.bool true) ∧ Ext V w') := told2
  obtain ⟨W0, hW0⟩ : ∃ W0, W0 = w.alloc (.cells #[.int .i64 0, .int .i64 1, .int .i64 6, .int .i64 0, .int .i64 0, .string ⟨#[]⟩] 30) := ⟨_, rfl⟩
  have kB : Blk W0 w.heap.size 30 #[.int .i64 0, .int .i64 1, .int .i64 6, .int .i64 0, .int .i64 0, .string ⟨#[]⟩] := by rw [hW0]; exact Blk.new _ _ _
  have hx0 : Ext w W0 := by rw [hW0]; exact Ext.alloc _ _
  have hb : Blk W0 w.heap.size 30 #[.int .i64 0, .int .i64 1, .int .i64 6, .int .i64 0, .int .i64 0, .string ⟨#[]⟩] := kB
  have hxx : Below w.heap.size w W0 := hx0
  have KB := Lib.hid hb
  have HXX := Lib.hid hxx
  have HW0 := Lib.hid hW0
  have CM : Hid (∀ V, Calls Try.prog 32 #[.agg #[.int .i64 0, .int .i64 1, .int .i64 6, .int .i64 0, .int .i64 0, .string ⟨#[]⟩]] V fun e w' => e = .returned (.bool true) ∧ Ext V w') := fun V => by
    have h := mayReq_any 0 1 6 0 0 ⟨#[]⟩ V (by decide)
    rw [show mayReqB 0 1 6 0 0 (ByteArray.size ⟨#[]⟩) = true by decide] at h
    exact h
  have CW : Hid (∀ V, Calls Try.prog 33 #[.agg #[.int .i64 0, .int .i64 1, .int .i64 6, .int .i64 0, .int .i64 0, .string ⟨#[]⟩]] V fun e w' => e = .returned (.bool false) ∧ Ext V w') := fun V => writes_any 0 1 6 0 0 ⟨#[]⟩ V
  clear kB hx0 hb hxx hW0
  go_enter Try.func12, Try.ntmps12
  go_wp2_with fail
  try rw [← HW0.out]
  go_wp2_with (first
    | (go_at_call 29; (with_reducible refine (HT.out _).mono ?_); rintro e w1 ⟨rfl, hx⟩; have HX1 : Hid (Below w.heap.size w w1) := HXX.out.trans (hx.mono HXX.out.size); have k1 := KB.out.stay hx; have a0 := k1.cell 0; have a1 := k1.cell 1; have a2 := k1.cell 2; have a3 := k1.cell 3; have a4 := k1.cell 4; have a5 := k1.cell 5; simp at a0 a1 a2 a3 a4 a5; have K1 := Lib.hid k1; clear hx k1)
    | (go_at_call 32; (with_reducible refine (CM.out _).mono ?_); rintro e w2 ⟨rfl, hx⟩; have HX2 : Hid (Below w.heap.size w w2) := HX1.out.trans (hx.mono HX1.out.size); have k1 := K1.out.stay hx; have b0 := k1.cell 0; have b1 := k1.cell 1; have b2 := k1.cell 2; have b3 := k1.cell 3; have b4 := k1.cell 4; have b5 := k1.cell 5; simp at b0 b1 b2 b3 b4 b5; clear hx k1)
    | (go_at_call 33; (with_reducible refine (CW.out _).mono ?_); rintro e w3 ⟨rfl, hx⟩; have HX3 : Hid (Below w.heap.size w w3) := HX2.out.trans (hx.mono HX2.out.size); clear hx))
  try go_ret
  exact hD.out _ _ ⟨rfl, HX3.out⟩

set_option maxRecDepth 8000 in
set_option maxHeartbeats 8000000 in
theorem kinds_6_f_p (kind mt : Int) (m : Int) (h0 : 0 < m) (h3 : m ≤ 3) (w : World) (ha : (IntKind.u64.wrap kind).tmod 6 = 5) (hm : (IntKind.u64.wrap mt).tmod 4 = m) :
    Calls Try.prog 12 #[.int .i64 kind, .int .i64 mt, .bool false] w fun e w' => e = .returned (.bool true) ∧ Below w.heap.size w w' := by
  refine hide_post fun D hD => ?_
  have hmz : ¬ m = 0 := by omega
  have HT : Hid (∀ V, Calls Try.prog 29 #[] V fun e w' => e = .returned (.bool true) ∧ Ext V w') := told2
  obtain ⟨W0, hW0⟩ : ∃ W0, W0 = w.alloc (.cells #[.int .i64 0, .int .i64 1, .int .i64 6, .int .i64 0, .int .i64 m, .string ⟨#[]⟩] 30) := ⟨_, rfl⟩
  have kB : Blk W0 w.heap.size 30 #[.int .i64 0, .int .i64 1, .int .i64 6, .int .i64 0, .int .i64 m, .string ⟨#[]⟩] := by rw [hW0]; exact Blk.new _ _ _
  have hx0 : Ext w W0 := by rw [hW0]; exact Ext.alloc _ _
  have hb : Blk W0 w.heap.size 30 #[.int .i64 0, .int .i64 1, .int .i64 6, .int .i64 0, .int .i64 m, .string ⟨#[]⟩] := kB
  have hxx : Below w.heap.size w W0 := hx0
  have KB := Lib.hid hb
  have HXX := Lib.hid hxx
  have HW0 := Lib.hid hW0
  have CM : Hid (∀ V, Calls Try.prog 32 #[.agg #[.int .i64 0, .int .i64 1, .int .i64 6, .int .i64 0, .int .i64 m, .string ⟨#[]⟩]] V fun e w' => e = .returned (.bool false) ∧ Ext V w') := fun V => by
    have h := mayReq_any 0 1 6 0 m ⟨#[]⟩ V (by decide)
    rw [show mayReqB 0 1 6 0 m (ByteArray.size ⟨#[]⟩) = false by unfold mayReqB; simp [ByteArray.size] <;> omega] at h
    exact h
  have CW : Hid (∀ V, Calls Try.prog 33 #[.agg #[.int .i64 0, .int .i64 1, .int .i64 6, .int .i64 0, .int .i64 m, .string ⟨#[]⟩]] V fun e w' => e = .returned (.bool false) ∧ Ext V w') := fun V => writes_any 0 1 6 0 m ⟨#[]⟩ V
  clear kB hx0 hb hxx hW0
  go_enter Try.func12, Try.ntmps12
  go_wp2_with fail
  try rw [← HW0.out]
  go_wp2_with (first
    | (go_at_call 29; (with_reducible refine (HT.out _).mono ?_); rintro e w1 ⟨rfl, hx⟩; have HX1 : Hid (Below w.heap.size w w1) := HXX.out.trans (hx.mono HXX.out.size); have k1 := KB.out.stay hx; have a0 := k1.cell 0; have a1 := k1.cell 1; have a2 := k1.cell 2; have a3 := k1.cell 3; have a4 := k1.cell 4; have a5 := k1.cell 5; simp at a0 a1 a2 a3 a4 a5; have K1 := Lib.hid k1; clear hx k1)
    | (go_at_call 32; (with_reducible refine (CM.out _).mono ?_); rintro e w2 ⟨rfl, hx⟩; have HX2 : Hid (Below w.heap.size w w2) := HX1.out.trans (hx.mono HX1.out.size); have k1 := K1.out.stay hx; have b0 := k1.cell 0; have b1 := k1.cell 1; have b2 := k1.cell 2; have b3 := k1.cell 3; have b4 := k1.cell 4; have b5 := k1.cell 5; simp at b0 b1 b2 b3 b4 b5; clear hx k1)
    | (go_at_call 33; (with_reducible refine (CW.out _).mono ?_); rintro e w3 ⟨rfl, hx⟩; have HX3 : Hid (Below w.heap.size w w3) := HX2.out.trans (hx.mono HX2.out.size); clear hx))
  try go_ret
  exact hD.out _ _ ⟨by first | rfl | (simp [hmz, h0]; done), HX3.out⟩

set_option maxRecDepth 8000 in
set_option maxHeartbeats 8000000 in
theorem kinds_6_t_z (kind mt : Int) (w : World) (ha : (IntKind.u64.wrap kind).tmod 6 = 5) (hm : (IntKind.u64.wrap mt).tmod 4 = 0) :
    Calls Try.prog 12 #[.int .i64 kind, .int .i64 mt, .bool true] w fun e w' => e = .returned (.bool true) ∧ Below w.heap.size w w' := by
  refine hide_post fun D hD => ?_

  have HT : Hid (∀ V, Calls Try.prog 29 #[] V fun e w' => e = .returned (.bool true) ∧ Ext V w') := told2
  obtain ⟨W0, hW0⟩ : ∃ W0, W0 = w.alloc (.cells #[.int .i64 0, .int .i64 1, .int .i64 6, .int .i64 0, .int .i64 0, .string ⟨#[120]⟩] 30) := ⟨_, rfl⟩
  have kB : Blk W0 w.heap.size 30 #[.int .i64 0, .int .i64 1, .int .i64 6, .int .i64 0, .int .i64 0, .string ⟨#[120]⟩] := by rw [hW0]; exact Blk.new _ _ _
  have hx0 : Ext w W0 := by rw [hW0]; exact Ext.alloc _ _
  have hb : Blk W0 w.heap.size 30 #[.int .i64 0, .int .i64 1, .int .i64 6, .int .i64 0, .int .i64 0, .string ⟨#[120]⟩] := kB
  have hxx : Below w.heap.size w W0 := hx0
  have KB := Lib.hid hb
  have HXX := Lib.hid hxx
  have HW0 := Lib.hid hW0
  have CM : Hid (∀ V, Calls Try.prog 32 #[.agg #[.int .i64 0, .int .i64 1, .int .i64 6, .int .i64 0, .int .i64 0, .string ⟨#[120]⟩]] V fun e w' => e = .returned (.bool false) ∧ Ext V w') := fun V => by
    have h := mayReq_any 0 1 6 0 0 ⟨#[120]⟩ V (by decide)
    rw [show mayReqB 0 1 6 0 0 (ByteArray.size ⟨#[120]⟩) = false by decide] at h
    exact h
  have CW : Hid (∀ V, Calls Try.prog 33 #[.agg #[.int .i64 0, .int .i64 1, .int .i64 6, .int .i64 0, .int .i64 0, .string ⟨#[120]⟩]] V fun e w' => e = .returned (.bool false) ∧ Ext V w') := fun V => writes_any 0 1 6 0 0 ⟨#[120]⟩ V
  clear kB hx0 hb hxx hW0
  go_enter Try.func12, Try.ntmps12
  go_wp2_with fail
  try rw [← HW0.out]
  go_wp2_with (first
    | (go_at_call 29; (with_reducible refine (HT.out _).mono ?_); rintro e w1 ⟨rfl, hx⟩; have HX1 : Hid (Below w.heap.size w w1) := HXX.out.trans (hx.mono HXX.out.size); have k1 := KB.out.stay hx; have a0 := k1.cell 0; have a1 := k1.cell 1; have a2 := k1.cell 2; have a3 := k1.cell 3; have a4 := k1.cell 4; have a5 := k1.cell 5; simp at a0 a1 a2 a3 a4 a5; have K1 := Lib.hid k1; clear hx k1)
    | (go_at_call 32; (with_reducible refine (CM.out _).mono ?_); rintro e w2 ⟨rfl, hx⟩; have HX2 : Hid (Below w.heap.size w w2) := HX1.out.trans (hx.mono HX1.out.size); have k1 := K1.out.stay hx; have b0 := k1.cell 0; have b1 := k1.cell 1; have b2 := k1.cell 2; have b3 := k1.cell 3; have b4 := k1.cell 4; have b5 := k1.cell 5; simp at b0 b1 b2 b3 b4 b5; clear hx k1)
    | (go_at_call 33; (with_reducible refine (CW.out _).mono ?_); rintro e w3 ⟨rfl, hx⟩; have HX3 : Hid (Below w.heap.size w w3) := HX2.out.trans (hx.mono HX2.out.size); clear hx))
  try go_ret
  exact hD.out _ _ ⟨rfl, HX3.out⟩

set_option maxRecDepth 8000 in
set_option maxHeartbeats 8000000 in
theorem kinds_6_t_p (kind mt : Int) (m : Int) (h0 : 0 < m) (h3 : m ≤ 3) (w : World) (ha : (IntKind.u64.wrap kind).tmod 6 = 5) (hm : (IntKind.u64.wrap mt).tmod 4 = m) :
    Calls Try.prog 12 #[.int .i64 kind, .int .i64 mt, .bool true] w fun e w' => e = .returned (.bool true) ∧ Below w.heap.size w w' := by
  refine hide_post fun D hD => ?_
  have hmz : ¬ m = 0 := by omega
  have HT : Hid (∀ V, Calls Try.prog 29 #[] V fun e w' => e = .returned (.bool true) ∧ Ext V w') := told2
  obtain ⟨W0, hW0⟩ : ∃ W0, W0 = w.alloc (.cells #[.int .i64 0, .int .i64 1, .int .i64 6, .int .i64 0, .int .i64 m, .string ⟨#[120]⟩] 30) := ⟨_, rfl⟩
  have kB : Blk W0 w.heap.size 30 #[.int .i64 0, .int .i64 1, .int .i64 6, .int .i64 0, .int .i64 m, .string ⟨#[120]⟩] := by rw [hW0]; exact Blk.new _ _ _
  have hx0 : Ext w W0 := by rw [hW0]; exact Ext.alloc _ _
  have hb : Blk W0 w.heap.size 30 #[.int .i64 0, .int .i64 1, .int .i64 6, .int .i64 0, .int .i64 m, .string ⟨#[120]⟩] := kB
  have hxx : Below w.heap.size w W0 := hx0
  have KB := Lib.hid hb
  have HXX := Lib.hid hxx
  have HW0 := Lib.hid hW0
  have CM : Hid (∀ V, Calls Try.prog 32 #[.agg #[.int .i64 0, .int .i64 1, .int .i64 6, .int .i64 0, .int .i64 m, .string ⟨#[120]⟩]] V fun e w' => e = .returned (.bool false) ∧ Ext V w') := fun V => by
    have h := mayReq_any 0 1 6 0 m ⟨#[120]⟩ V (by decide)
    rw [show mayReqB 0 1 6 0 m (ByteArray.size ⟨#[120]⟩) = false by unfold mayReqB; simp [ByteArray.size] <;> omega] at h
    exact h
  have CW : Hid (∀ V, Calls Try.prog 33 #[.agg #[.int .i64 0, .int .i64 1, .int .i64 6, .int .i64 0, .int .i64 m, .string ⟨#[120]⟩]] V fun e w' => e = .returned (.bool false) ∧ Ext V w') := fun V => writes_any 0 1 6 0 m ⟨#[120]⟩ V
  clear kB hx0 hb hxx hW0
  go_enter Try.func12, Try.ntmps12
  go_wp2_with fail
  try rw [← HW0.out]
  go_wp2_with (first
    | (go_at_call 29; (with_reducible refine (HT.out _).mono ?_); rintro e w1 ⟨rfl, hx⟩; have HX1 : Hid (Below w.heap.size w w1) := HXX.out.trans (hx.mono HXX.out.size); have k1 := KB.out.stay hx; have a0 := k1.cell 0; have a1 := k1.cell 1; have a2 := k1.cell 2; have a3 := k1.cell 3; have a4 := k1.cell 4; have a5 := k1.cell 5; simp at a0 a1 a2 a3 a4 a5; have K1 := Lib.hid k1; clear hx k1)
    | (go_at_call 32; (with_reducible refine (CM.out _).mono ?_); rintro e w2 ⟨rfl, hx⟩; have HX2 : Hid (Below w.heap.size w w2) := HX1.out.trans (hx.mono HX1.out.size); have k1 := K1.out.stay hx; have b0 := k1.cell 0; have b1 := k1.cell 1; have b2 := k1.cell 2; have b3 := k1.cell 3; have b4 := k1.cell 4; have b5 := k1.cell 5; simp at b0 b1 b2 b3 b4 b5; clear hx k1)
    | (go_at_call 33; (with_reducible refine (CW.out _).mono ?_); rintro e w3 ⟨rfl, hx⟩; have HX3 : Hid (Below w.heap.size w w3) := HX2.out.trans (hx.mono HX2.out.size); clear hx))
  try go_ret
  exact hD.out _ _ ⟨by first | rfl | (simp [hmz, h0]; done), HX3.out⟩

theorem walk_itemKinds (kind mt : Int) (data : Bool) (w : World) :
    Calls Try.prog 12 #[.int .i64 kind, .int .i64 mt, .bool data] w fun e w' => e = .returned (.bool true) ∧ Below w.heap.size w w' := by
  have hw : 0 ≤ IntKind.u64.wrap kind := by rw [show IntKind.u64.wrap kind = kind % 18446744073709551616 by simp [IntKind.wrap, IntKind.bits, IntKind.signed]]; omega
  have hw2 : 0 ≤ IntKind.u64.wrap mt := by rw [show IntKind.u64.wrap mt = mt % 18446744073709551616 by simp [IntKind.wrap, IntKind.bits, IntKind.signed]]; omega
  have ha2 : (IntKind.u64.wrap kind).tmod 6 = 0 ∨ (IntKind.u64.wrap kind).tmod 6 = 1 ∨ (IntKind.u64.wrap kind).tmod 6 = 2 ∨ (IntKind.u64.wrap kind).tmod 6 = 3 ∨ (IntKind.u64.wrap kind).tmod 6 = 4 ∨ (IntKind.u64.wrap kind).tmod 6 = 5 := by rw [Int.tmod_eq_emod_of_nonneg hw]; omega
  have hm2 : (IntKind.u64.wrap mt).tmod 4 = 0 ∨ (0 < (IntKind.u64.wrap mt).tmod 4 ∧ (IntKind.u64.wrap mt).tmod 4 ≤ 3) := by rw [Int.tmod_eq_emod_of_nonneg hw2]; omega
  cases data
  · rcases ha2 with h | h | h | h | h | h
    · rcases hm2 with g | ⟨g1, g2⟩
      · exact kinds_1_f_z kind mt w h g
      · exact kinds_1_f_p kind mt _ g1 g2 w h rfl
    · rcases hm2 with g | ⟨g1, g2⟩
      · exact kinds_2_f_z kind mt w h g
      · exact kinds_2_f_p kind mt _ g1 g2 w h rfl
    · rcases hm2 with g | ⟨g1, g2⟩
      · exact kinds_3_f_z kind mt w h g
      · exact kinds_3_f_p kind mt _ g1 g2 w h rfl
    · rcases hm2 with g | ⟨g1, g2⟩
      · exact kinds_4_f_z kind mt w h g
      · exact kinds_4_f_p kind mt _ g1 g2 w h rfl
    · rcases hm2 with g | ⟨g1, g2⟩
      · exact kinds_5_f_z kind mt w h g
      · exact kinds_5_f_p kind mt _ g1 g2 w h rfl
    · rcases hm2 with g | ⟨g1, g2⟩
      · exact kinds_6_f_z kind mt w h g
      · exact kinds_6_f_p kind mt _ g1 g2 w h rfl
  · rcases ha2 with h | h | h | h | h | h
    · rcases hm2 with g | ⟨g1, g2⟩
      · exact kinds_1_t_z kind mt w h g
      · exact kinds_1_t_p kind mt _ g1 g2 w h rfl
    · rcases hm2 with g | ⟨g1, g2⟩
      · exact kinds_2_t_z kind mt w h g
      · exact kinds_2_t_p kind mt _ g1 g2 w h rfl
    · rcases hm2 with g | ⟨g1, g2⟩
      · exact kinds_3_t_z kind mt w h g
      · exact kinds_3_t_p kind mt _ g1 g2 w h rfl
    · rcases hm2 with g | ⟨g1, g2⟩
      · exact kinds_4_t_z kind mt w h g
      · exact kinds_4_t_p kind mt _ g1 g2 w h rfl
    · rcases hm2 with g | ⟨g1, g2⟩
      · exact kinds_5_t_z kind mt w h g
      · exact kinds_5_t_p kind mt _ g1 g2 w h rfl
    · rcases hm2 with g | ⟨g1, g2⟩
      · exact kinds_6_t_z kind mt w h g
      · exact kinds_6_t_p kind mt _ g1 g2 w h rfl
set_option maxRecDepth 100000 in
theorem law_itemKinds {H : Type} {enc : TypeId × Value → H} (W : World) (base : Nat) (args : Array Value) (ds : List (DataW H)) (p : List MemPlace)
    (hval : ∀ (j : Nat) t v, Try.f12.params[j]? = some t → args[j]? = some v → Value.okWide Try.prog W .any base t v)
    (hA : DataW.TrodAll enc Try.prog W 0 (fun _ => true) true Try.f12.params.toList args.toList ds p) :
    Calls Try.prog 12 args W fun e W' => e = .returned (.bool true) ∧ Below W.heap.size W W' := by
  rw [Try.params12] at hA hval
  obtain ⟨v0, vs0, d0, ds0, p0, q0, hargs, rfl, rfl, h0, r0⟩ := trodAll_cons hA
  obtain ⟨v1, vs1, d1, ds1, p1, q1, rfl, rfl, rfl, h1, r1⟩ := trodAll_cons r0
  obtain ⟨v2, vs2, d2, ds2, p2, q2, rfl, rfl, rfl, h2, r2⟩ := trodAll_cons r1
  obtain ⟨rfl, rfl, rfl⟩ := trodAll_nil r2
  obtain rfl : args = #[v0, v1, v2] := by cases args; simp_all
  obtain ⟨a0, rfl, rfl, rfl, w0⟩ := open_int Try.underlying3 (hval 0 3 v0 rfl rfl) h0
  obtain ⟨a1, rfl, rfl, rfl, w1⟩ := open_int Try.underlying3 (hval 1 3 v1 rfl rfl) h1
  obtain ⟨a2, rfl, rfl, rfl⟩ := open_bool Try.underlying4 (hval 2 4 v2 rfl rfl) h2
  exact walk_itemKinds a0 a1 a2 W

end Go.Proofs.Ytdbnaflaobncgaa
