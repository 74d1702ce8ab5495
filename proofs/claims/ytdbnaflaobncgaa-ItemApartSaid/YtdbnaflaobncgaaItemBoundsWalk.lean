/-
  The walk of the law ItemBounds.
-/
import Derived.Test.YtdbnaflaobncgaaTold2
import Derived.Test.YtdbnaflaobncgaaOpenReq
import Derived.Deep.OwnRows
namespace Go.Proofs.Ytdbnaflaobncgaa
set_option linter.unusedVariables false
set_option linter.unusedSimpArgs false
open Go.RowKit Go.ChangeShapes Go.WideShapes

theorem few_any (c s k i m : Int) (d : ByteArray) (w : World) (hd : d.size ≤ maxLen) :
    Calls Try.prog 28 #[.agg #[.int .i64 c, .int .i64 s, .int .i64 k, .int .i64 i, .int .i64 m, .string d]] w fun e w' => e = .returned (.bool (decide (d.size ≤ 300))) ∧ Ext w w' := by
  refine hide_post fun D hD => ?_
  have hx : Ext w (w.alloc (.cells #[.int .i64 c, .int .i64 s, .int .i64 k, .int .i64 i, .int .i64 m, .string d] 30)) := Ext.alloc _ _
  have HX := Lib.hid hx
  clear hx
  unfold maxLen at hd
  go_enter Try.func28, Try.ntmps28
  go_wp2_with fail
  try go_ret
  exact hD.out _ _ ⟨ret_bool (by first | rfl | (apply decide_eq_decide.2; omega) | (simp; done) | (simp; omega)), HX.out⟩

set_option maxRecDepth 8000 in
set_option maxHeartbeats 8000000 in
theorem bounds_no (c s k i m : Int) (d : ByteArray) (part : Int) (w : World) (f g : Bool) (hd : d.size ≤ maxLen) (hf : decide (d.size ≤ 300) = f) (hm : mayReqB c s k i m d.size = g) (hfg : (f && g) = false) :
    Calls Try.prog 10 #[.agg #[.int .i64 c, .int .i64 s, .int .i64 k, .int .i64 i, .int .i64 m, .string d], .int .i64 part] w fun e w' => e = .returned (.bool true) ∧ Below w.heap.size w w' := by
  refine hide_post fun D hD => ?_
  have HT : Hid (∀ V, Calls Try.prog 29 #[] V fun e w' => e = .returned (.bool true) ∧ Ext V w') := told2
  obtain ⟨W0, hW0⟩ : ∃ W0, W0 = w.alloc (.cells #[.int .i64 c, .int .i64 s, .int .i64 k, .int .i64 i, .int .i64 m, .string d] 30) := ⟨_, rfl⟩
  have kB : Blk W0 w.heap.size 30 #[.int .i64 c, .int .i64 s, .int .i64 k, .int .i64 i, .int .i64 m, .string d] := by rw [hW0]; exact Blk.new _ _ _
  have hx0 : Ext w W0 := by rw [hW0]; exact Ext.alloc _ _
  have HW0 := Lib.hid hW0
  have KB := Lib.hid kB
  have HX0 := Lib.hid hx0
  have CF : Hid (∀ V, Calls Try.prog 28 #[.agg #[.int .i64 c, .int .i64 s, .int .i64 k, .int .i64 i, .int .i64 m, .string d]] V fun e w' => e = .returned (.bool f) ∧ Ext V w') := fun V => by rw [← hf]; exact few_any c s k i m d V hd
  have CM : Hid (∀ V, Calls Try.prog 32 #[.agg #[.int .i64 c, .int .i64 s, .int .i64 k, .int .i64 i, .int .i64 m, .string d]] V fun e w' => e = .returned (.bool g) ∧ Ext V w') := fun V => by rw [← hm]; exact mayReq_any c s k i m d V hd
  clear kB hx0 hW0 hf hm
  cases f <;> cases g <;> simp at hfg
  all_goals
    go_enter Try.func10, Try.ntmps10
    go_wp2_with fail
    try rw [← HW0.out]
    go_wp2_with (first
      | (go_at_call 28; (with_reducible refine (CF.out _).mono ?_); rintro e w1 ⟨rfl, hx⟩; have HX1 : Hid (Ext w w1) := HX0.out.trans hx; have k1 := KB.out.stay hx; have a0 := k1.cell 0; have a1 := k1.cell 1; have a2 := k1.cell 2; have a3 := k1.cell 3; have a4 := k1.cell 4; have a5 := k1.cell 5; simp at a0 a1 a2 a3 a4 a5; have K1 := Lib.hid k1; clear hx k1)
      | (go_at_call 32; (with_reducible refine (CM.out _).mono ?_); rintro e w2 ⟨rfl, hx⟩; have HX2 : Hid (Ext w w2) := HX1.out.trans hx; clear hx)
      | (go_at_call 29; (with_reducible refine (HT.out _).mono ?_); rintro e w3 ⟨rfl, hx⟩; first | (have HX3 : Hid (Ext w w3) := HX2.out.trans hx; clear hx) | (have HX3 : Hid (Ext w w3) := HX1.out.trans hx; clear hx)))
    try go_ret
    exact hD.out _ _ ⟨rfl, HX3.out⟩

set_option maxRecDepth 8000 in
set_option maxHeartbeats 8000000 in
theorem bounds_0 (c s k i m : Int) (d : ByteArray) (part : Int) (w : World) (hd : d.size ≤ 300) (hm : mayReqB c s k i m d.size = true) (hp : (IntKind.u64.wrap part).tmod 9 = 0) :
    Calls Try.prog 10 #[.agg #[.int .i64 c, .int .i64 s, .int .i64 k, .int .i64 i, .int .i64 m, .string d], .int .i64 part] w fun e w' => e = .returned (.bool true) ∧ Below w.heap.size w w' := by
  refine hide_post fun D hD => ?_
  have HT : Hid (∀ V, Calls Try.prog 29 #[] V fun e w' => e = .returned (.bool true) ∧ Ext V w') := told2
  obtain ⟨W0, hW0⟩ : ∃ W0, W0 = w.alloc (.cells #[.int .i64 c, .int .i64 s, .int .i64 k, .int .i64 i, .int .i64 m, .string d] 30) := ⟨_, rfl⟩
  have kB : Blk W0 w.heap.size 30 #[.int .i64 c, .int .i64 s, .int .i64 k, .int .i64 i, .int .i64 m, .string d] := by rw [hW0]; exact Blk.new _ _ _
  have hx0 : Ext w W0 := by rw [hW0]; exact Ext.alloc _ _
  have HW0 := Lib.hid hW0
  have KB := Lib.hid kB
  have HX0 := Lib.hid hx0

  have hdm : d.size ≤ maxLen := by unfold maxLen; omega
  have CF : Hid (∀ V, Calls Try.prog 28 #[.agg #[.int .i64 c, .int .i64 s, .int .i64 k, .int .i64 i, .int .i64 m, .string d]] V fun e w' => e = .returned (.bool true) ∧ Ext V w') := fun V => by have h := few_any c s k i m d V hdm; rw [decide_eq_true hd] at h; exact h
  have CM : Hid (∀ V, Calls Try.prog 32 #[.agg #[.int .i64 c, .int .i64 s, .int .i64 k, .int .i64 i, .int .i64 m, .string d]] V fun e w' => e = .returned (.bool true) ∧ Ext V w') := fun V => by rw [← hm]; exact mayReq_any c s k i m d V hdm
  have hn : mayReqB 4 s k i m (ByteArray.size d) = false := by unfold mayReqB; apply decide_eq_false; omega
  have hd2 : ByteArray.size d ≤ maxLen := hdm
  have CX : Hid (∀ V, Calls Try.prog 32 #[.agg #[.int .i64 4, .int .i64 s, .int .i64 k, .int .i64 i, .int .i64 m, .string d]] V fun e w' => e = .returned (.bool false) ∧ Ext V w') := fun V => by rw [← hn]; exact mayReq_any 4 s k i m d V hd2
  have CP : Hid (∀ V, Calls Try.prog 31 #[.agg #[.int .i64 4, .int .i64 s, .int .i64 k, .int .i64 i, .int .i64 m, .string d]] V fun e w' => e = .returned (.tuple #[.slice none 0 0, .int .i64 1]) ∧ Ext V w') := fun V => putReq_no 4 s k i m d V hd2 hn
  clear kB hx0 hW0 hn hd2 hdm hm hd
  go_enter Try.func10, Try.ntmps10
  go_wp2_with fail
  try rw [← HW0.out]
  go_wp2_with (first
    | (go_at_call 28; (with_reducible refine (CF.out _).mono ?_); rintro e w1 ⟨rfl, hx⟩; have HX1 : Hid (Ext w w1) := HX0.out.trans hx; have k1 := KB.out.stay hx; have a0 := k1.cell 0; have a1 := k1.cell 1; have a2 := k1.cell 2; have a3 := k1.cell 3; have a4 := k1.cell 4; have a5 := k1.cell 5; simp at a0 a1 a2 a3 a4 a5; have K1 := Lib.hid k1; clear hx k1)
    | (go_at_call 32; (with_reducible refine (CM.out _).mono ?_); rintro e w2 ⟨rfl, hx⟩; have HX2 : Hid (Ext w w2) := HX1.out.trans hx; have k2 := K1.out.stay hx; have b0 := k2.cell 0; have b1 := k2.cell 1; have b2 := k2.cell 2; have b3 := k2.cell 3; have b4 := k2.cell 4; have b5 := k2.cell 5; simp at b0 b1 b2 b3 b4 b5; clear hx k2)
    | (go_at_call 31; (with_reducible refine (CP.out _).mono ?_); rintro e w3 ⟨rfl, hx⟩; have kx := (Blk.new w2 30 #[.int .i64 4, .int .i64 s, .int .i64 k, .int .i64 i, .int .i64 m, .string d]).stay hx; have HX3 : Hid (Ext w w3) := (HX2.out.trans (Ext.alloc _ _)).trans hx; have g0 := kx.cell 0; have g1 := kx.cell 1; have g2 := kx.cell 2; have g3 := kx.cell 3; have g4 := kx.cell 4; have g5 := kx.cell 5; simp at g0 g1 g2 g3 g4 g5; have KX := Lib.hid kx; clear hx kx)
    | (go_at_call 29; (with_reducible refine (HT.out _).mono ?_); rintro e w4 ⟨rfl, hx⟩; have HX4 : Hid (Ext w w4) := HX3.out.trans hx; have kx := KX.out.stay hx; have e0 := kx.cell 0; have e1 := kx.cell 1; have e2 := kx.cell 2; have e3 := kx.cell 3; have e4 := kx.cell 4; have e5 := kx.cell 5; simp at e0 e1 e2 e3 e4 e5; clear hx kx)
    | (go_at_call 32; (with_reducible refine (CX.out _).mono ?_); rintro e w5 ⟨rfl, hx⟩; have HX5 : Hid (Ext w w5) := HX4.out.trans hx; clear hx))
  try go_ret
  exact hD.out _ _ ⟨rfl, HX5.out⟩

set_option maxRecDepth 8000 in
set_option maxHeartbeats 8000000 in
theorem bounds_1 (c s k i m : Int) (d : ByteArray) (part : Int) (w : World) (hd : d.size ≤ 300) (hm : mayReqB c s k i m d.size = true) (hp : (IntKind.u64.wrap part).tmod 9 = 1) :
    Calls Try.prog 10 #[.agg #[.int .i64 c, .int .i64 s, .int .i64 k, .int .i64 i, .int .i64 m, .string d], .int .i64 part] w fun e w' => e = .returned (.bool true) ∧ Below w.heap.size w w' := by
  refine hide_post fun D hD => ?_
  have HT : Hid (∀ V, Calls Try.prog 29 #[] V fun e w' => e = .returned (.bool true) ∧ Ext V w') := told2
  obtain ⟨W0, hW0⟩ : ∃ W0, W0 = w.alloc (.cells #[.int .i64 c, .int .i64 s, .int .i64 k, .int .i64 i, .int .i64 m, .string d] 30) := ⟨_, rfl⟩
  have kB : Blk W0 w.heap.size 30 #[.int .i64 c, .int .i64 s, .int .i64 k, .int .i64 i, .int .i64 m, .string d] := by rw [hW0]; exact Blk.new _ _ _
  have hx0 : Ext w W0 := by rw [hW0]; exact Ext.alloc _ _
  have HW0 := Lib.hid hW0
  have KB := Lib.hid kB
  have HX0 := Lib.hid hx0

  have hdm : d.size ≤ maxLen := by unfold maxLen; omega
  have CF : Hid (∀ V, Calls Try.prog 28 #[.agg #[.int .i64 c, .int .i64 s, .int .i64 k, .int .i64 i, .int .i64 m, .string d]] V fun e w' => e = .returned (.bool true) ∧ Ext V w') := fun V => by have h := few_any c s k i m d V hdm; rw [decide_eq_true hd] at h; exact h
  have CM : Hid (∀ V, Calls Try.prog 32 #[.agg #[.int .i64 c, .int .i64 s, .int .i64 k, .int .i64 i, .int .i64 m, .string d]] V fun e w' => e = .returned (.bool true) ∧ Ext V w') := fun V => by rw [← hm]; exact mayReq_any c s k i m d V hdm
  have hn : mayReqB (-1) s k i m (ByteArray.size d) = false := by unfold mayReqB; apply decide_eq_false; omega
  have hd2 : ByteArray.size d ≤ maxLen := hdm
  have CX : Hid (∀ V, Calls Try.prog 32 #[.agg #[.int .i64 (-1), .int .i64 s, .int .i64 k, .int .i64 i, .int .i64 m, .string d]] V fun e w' => e = .returned (.bool false) ∧ Ext V w') := fun V => by rw [← hn]; exact mayReq_any (-1) s k i m d V hd2
  have CP : Hid (∀ V, Calls Try.prog 31 #[.agg #[.int .i64 (-1), .int .i64 s, .int .i64 k, .int .i64 i, .int .i64 m, .string d]] V fun e w' => e = .returned (.tuple #[.slice none 0 0, .int .i64 1]) ∧ Ext V w') := fun V => putReq_no (-1) s k i m d V hd2 hn
  clear kB hx0 hW0 hn hd2 hdm hm hd
  go_enter Try.func10, Try.ntmps10
  go_wp2_with fail
  try rw [← HW0.out]
  go_wp2_with (first
    | (go_at_call 28; (with_reducible refine (CF.out _).mono ?_); rintro e w1 ⟨rfl, hx⟩; have HX1 : Hid (Ext w w1) := HX0.out.trans hx; have k1 := KB.out.stay hx; have a0 := k1.cell 0; have a1 := k1.cell 1; have a2 := k1.cell 2; have a3 := k1.cell 3; have a4 := k1.cell 4; have a5 := k1.cell 5; simp at a0 a1 a2 a3 a4 a5; have K1 := Lib.hid k1; clear hx k1)
    | (go_at_call 32; (with_reducible refine (CM.out _).mono ?_); rintro e w2 ⟨rfl, hx⟩; have HX2 : Hid (Ext w w2) := HX1.out.trans hx; have k2 := K1.out.stay hx; have b0 := k2.cell 0; have b1 := k2.cell 1; have b2 := k2.cell 2; have b3 := k2.cell 3; have b4 := k2.cell 4; have b5 := k2.cell 5; simp at b0 b1 b2 b3 b4 b5; clear hx k2)
    | (go_at_call 31; (with_reducible refine (CP.out _).mono ?_); rintro e w3 ⟨rfl, hx⟩; have kx := (Blk.new w2 30 #[.int .i64 (-1), .int .i64 s, .int .i64 k, .int .i64 i, .int .i64 m, .string d]).stay hx; have HX3 : Hid (Ext w w3) := (HX2.out.trans (Ext.alloc _ _)).trans hx; have g0 := kx.cell 0; have g1 := kx.cell 1; have g2 := kx.cell 2; have g3 := kx.cell 3; have g4 := kx.cell 4; have g5 := kx.cell 5; simp at g0 g1 g2 g3 g4 g5; have KX := Lib.hid kx; clear hx kx)
    | (go_at_call 29; (with_reducible refine (HT.out _).mono ?_); rintro e w4 ⟨rfl, hx⟩; have HX4 : Hid (Ext w w4) := HX3.out.trans hx; have kx := KX.out.stay hx; have e0 := kx.cell 0; have e1 := kx.cell 1; have e2 := kx.cell 2; have e3 := kx.cell 3; have e4 := kx.cell 4; have e5 := kx.cell 5; simp at e0 e1 e2 e3 e4 e5; clear hx kx)
    | (go_at_call 32; (with_reducible refine (CX.out _).mono ?_); rintro e w5 ⟨rfl, hx⟩; have HX5 : Hid (Ext w w5) := HX4.out.trans hx; clear hx))
  try go_ret
  exact hD.out _ _ ⟨rfl, HX5.out⟩

set_option maxRecDepth 8000 in
set_option maxHeartbeats 8000000 in
theorem bounds_2 (c s k i m : Int) (d : ByteArray) (part : Int) (w : World) (hd : d.size ≤ 300) (hm : mayReqB c s k i m d.size = true) (hp : (IntKind.u64.wrap part).tmod 9 = 2) :
    Calls Try.prog 10 #[.agg #[.int .i64 c, .int .i64 s, .int .i64 k, .int .i64 i, .int .i64 m, .string d], .int .i64 part] w fun e w' => e = .returned (.bool true) ∧ Below w.heap.size w w' := by
  refine hide_post fun D hD => ?_
  have HT : Hid (∀ V, Calls Try.prog 29 #[] V fun e w' => e = .returned (.bool true) ∧ Ext V w') := told2
  obtain ⟨W0, hW0⟩ : ∃ W0, W0 = w.alloc (.cells #[.int .i64 c, .int .i64 s, .int .i64 k, .int .i64 i, .int .i64 m, .string d] 30) := ⟨_, rfl⟩
  have kB : Blk W0 w.heap.size 30 #[.int .i64 c, .int .i64 s, .int .i64 k, .int .i64 i, .int .i64 m, .string d] := by rw [hW0]; exact Blk.new _ _ _
  have hx0 : Ext w W0 := by rw [hW0]; exact Ext.alloc _ _
  have HW0 := Lib.hid hW0
  have KB := Lib.hid kB
  have HX0 := Lib.hid hx0

  have hdm : d.size ≤ maxLen := by unfold maxLen; omega
  have CF : Hid (∀ V, Calls Try.prog 28 #[.agg #[.int .i64 c, .int .i64 s, .int .i64 k, .int .i64 i, .int .i64 m, .string d]] V fun e w' => e = .returned (.bool true) ∧ Ext V w') := fun V => by have h := few_any c s k i m d V hdm; rw [decide_eq_true hd] at h; exact h
  have CM : Hid (∀ V, Calls Try.prog 32 #[.agg #[.int .i64 c, .int .i64 s, .int .i64 k, .int .i64 i, .int .i64 m, .string d]] V fun e w' => e = .returned (.bool true) ∧ Ext V w') := fun V => by rw [← hm]; exact mayReq_any c s k i m d V hdm
  have hn : mayReqB c 0 k i m (ByteArray.size d) = false := by unfold mayReqB; apply decide_eq_false; omega
  have hd2 : ByteArray.size d ≤ maxLen := hdm
  have CX : Hid (∀ V, Calls Try.prog 32 #[.agg #[.int .i64 c, .int .i64 0, .int .i64 k, .int .i64 i, .int .i64 m, .string d]] V fun e w' => e = .returned (.bool false) ∧ Ext V w') := fun V => by rw [← hn]; exact mayReq_any c 0 k i m d V hd2
  have CP : Hid (∀ V, Calls Try.prog 31 #[.agg #[.int .i64 c, .int .i64 0, .int .i64 k, .int .i64 i, .int .i64 m, .string d]] V fun e w' => e = .returned (.tuple #[.slice none 0 0, .int .i64 1]) ∧ Ext V w') := fun V => putReq_no c 0 k i m d V hd2 hn
  clear kB hx0 hW0 hn hd2 hdm hm hd
  go_enter Try.func10, Try.ntmps10
  go_wp2_with fail
  try rw [← HW0.out]
  go_wp2_with (first
    | (go_at_call 28; (with_reducible refine (CF.out _).mono ?_); rintro e w1 ⟨rfl, hx⟩; have HX1 : Hid (Ext w w1) := HX0.out.trans hx; have k1 := KB.out.stay hx; have a0 := k1.cell 0; have a1 := k1.cell 1; have a2 := k1.cell 2; have a3 := k1.cell 3; have a4 := k1.cell 4; have a5 := k1.cell 5; simp at a0 a1 a2 a3 a4 a5; have K1 := Lib.hid k1; clear hx k1)
    | (go_at_call 32; (with_reducible refine (CM.out _).mono ?_); rintro e w2 ⟨rfl, hx⟩; have HX2 : Hid (Ext w w2) := HX1.out.trans hx; have k2 := K1.out.stay hx; have b0 := k2.cell 0; have b1 := k2.cell 1; have b2 := k2.cell 2; have b3 := k2.cell 3; have b4 := k2.cell 4; have b5 := k2.cell 5; simp at b0 b1 b2 b3 b4 b5; clear hx k2)
    | (go_at_call 31; (with_reducible refine (CP.out _).mono ?_); rintro e w3 ⟨rfl, hx⟩; have kx := (Blk.new w2 30 #[.int .i64 c, .int .i64 0, .int .i64 k, .int .i64 i, .int .i64 m, .string d]).stay hx; have HX3 : Hid (Ext w w3) := (HX2.out.trans (Ext.alloc _ _)).trans hx; have g0 := kx.cell 0; have g1 := kx.cell 1; have g2 := kx.cell 2; have g3 := kx.cell 3; have g4 := kx.cell 4; have g5 := kx.cell 5; simp at g0 g1 g2 g3 g4 g5; have KX := Lib.hid kx; clear hx kx)
    | (go_at_call 29; (with_reducible refine (HT.out _).mono ?_); rintro e w4 ⟨rfl, hx⟩; have HX4 : Hid (Ext w w4) := HX3.out.trans hx; have kx := KX.out.stay hx; have e0 := kx.cell 0; have e1 := kx.cell 1; have e2 := kx.cell 2; have e3 := kx.cell 3; have e4 := kx.cell 4; have e5 := kx.cell 5; simp at e0 e1 e2 e3 e4 e5; clear hx kx)
    | (go_at_call 32; (with_reducible refine (CX.out _).mono ?_); rintro e w5 ⟨rfl, hx⟩; have HX5 : Hid (Ext w w5) := HX4.out.trans hx; clear hx))
  try go_ret
  exact hD.out _ _ ⟨rfl, HX5.out⟩

set_option maxRecDepth 8000 in
set_option maxHeartbeats 8000000 in
theorem bounds_3 (c s k i m : Int) (d : ByteArray) (part : Int) (w : World) (hd : d.size ≤ 300) (hm : mayReqB c s k i m d.size = true) (hp : (IntKind.u64.wrap part).tmod 9 = 3) :
    Calls Try.prog 10 #[.agg #[.int .i64 c, .int .i64 s, .int .i64 k, .int .i64 i, .int .i64 m, .string d], .int .i64 part] w fun e w' => e = .returned (.bool true) ∧ Below w.heap.size w w' := by
  refine hide_post fun D hD => ?_
  have HT : Hid (∀ V, Calls Try.prog 29 #[] V fun e w' => e = .returned (.bool true) ∧ Ext V w') := told2
  obtain ⟨W0, hW0⟩ : ∃ W0, W0 = w.alloc (.cells #[.int .i64 c, .int .i64 s, .int .i64 k, .int .i64 i, .int .i64 m, .string d] 30) := ⟨_, rfl⟩
  have kB : Blk W0 w.heap.size 30 #[.int .i64 c, .int .i64 s, .int .i64 k, .int .i64 i, .int .i64 m, .string d] := by rw [hW0]; exact Blk.new _ _ _
  have hx0 : Ext w W0 := by rw [hW0]; exact Ext.alloc _ _
  have HW0 := Lib.hid hW0
  have KB := Lib.hid kB
  have HX0 := Lib.hid hx0

  have hdm : d.size ≤ maxLen := by unfold maxLen; omega
  have CF : Hid (∀ V, Calls Try.prog 28 #[.agg #[.int .i64 c, .int .i64 s, .int .i64 k, .int .i64 i, .int .i64 m, .string d]] V fun e w' => e = .returned (.bool true) ∧ Ext V w') := fun V => by have h := few_any c s k i m d V hdm; rw [decide_eq_true hd] at h; exact h
  have CM : Hid (∀ V, Calls Try.prog 32 #[.agg #[.int .i64 c, .int .i64 s, .int .i64 k, .int .i64 i, .int .i64 m, .string d]] V fun e w' => e = .returned (.bool true) ∧ Ext V w') := fun V => by rw [← hm]; exact mayReq_any c s k i m d V hdm
  have hn : mayReqB c 1073741825 k i m (ByteArray.size d) = false := by unfold mayReqB; apply decide_eq_false; omega
  have hd2 : ByteArray.size d ≤ maxLen := hdm
  have CX : Hid (∀ V, Calls Try.prog 32 #[.agg #[.int .i64 c, .int .i64 1073741825, .int .i64 k, .int .i64 i, .int .i64 m, .string d]] V fun e w' => e = .returned (.bool false) ∧ Ext V w') := fun V => by rw [← hn]; exact mayReq_any c 1073741825 k i m d V hd2
  have CP : Hid (∀ V, Calls Try.prog 31 #[.agg #[.int .i64 c, .int .i64 1073741825, .int .i64 k, .int .i64 i, .int .i64 m, .string d]] V fun e w' => e = .returned (.tuple #[.slice none 0 0, .int .i64 1]) ∧ Ext V w') := fun V => putReq_no c 1073741825 k i m d V hd2 hn
  clear kB hx0 hW0 hn hd2 hdm hm hd
  go_enter Try.func10, Try.ntmps10
  go_wp2_with fail
  try rw [← HW0.out]
  go_wp2_with (first
    | (go_at_call 28; (with_reducible refine (CF.out _).mono ?_); rintro e w1 ⟨rfl, hx⟩; have HX1 : Hid (Ext w w1) := HX0.out.trans hx; have k1 := KB.out.stay hx; have a0 := k1.cell 0; have a1 := k1.cell 1; have a2 := k1.cell 2; have a3 := k1.cell 3; have a4 := k1.cell 4; have a5 := k1.cell 5; simp at a0 a1 a2 a3 a4 a5; have K1 := Lib.hid k1; clear hx k1)
    | (go_at_call 32; (with_reducible refine (CM.out _).mono ?_); rintro e w2 ⟨rfl, hx⟩; have HX2 : Hid (Ext w w2) := HX1.out.trans hx; have k2 := K1.out.stay hx; have b0 := k2.cell 0; have b1 := k2.cell 1; have b2 := k2.cell 2; have b3 := k2.cell 3; have b4 := k2.cell 4; have b5 := k2.cell 5; simp at b0 b1 b2 b3 b4 b5; clear hx k2)
    | (go_at_call 31; (with_reducible refine (CP.out _).mono ?_); rintro e w3 ⟨rfl, hx⟩; have kx := (Blk.new w2 30 #[.int .i64 c, .int .i64 1073741825, .int .i64 k, .int .i64 i, .int .i64 m, .string d]).stay hx; have HX3 : Hid (Ext w w3) := (HX2.out.trans (Ext.alloc _ _)).trans hx; have g0 := kx.cell 0; have g1 := kx.cell 1; have g2 := kx.cell 2; have g3 := kx.cell 3; have g4 := kx.cell 4; have g5 := kx.cell 5; simp at g0 g1 g2 g3 g4 g5; have KX := Lib.hid kx; clear hx kx)
    | (go_at_call 29; (with_reducible refine (HT.out _).mono ?_); rintro e w4 ⟨rfl, hx⟩; have HX4 : Hid (Ext w w4) := HX3.out.trans hx; have kx := KX.out.stay hx; have e0 := kx.cell 0; have e1 := kx.cell 1; have e2 := kx.cell 2; have e3 := kx.cell 3; have e4 := kx.cell 4; have e5 := kx.cell 5; simp at e0 e1 e2 e3 e4 e5; clear hx kx)
    | (go_at_call 32; (with_reducible refine (CX.out _).mono ?_); rintro e w5 ⟨rfl, hx⟩; have HX5 : Hid (Ext w w5) := HX4.out.trans hx; clear hx))
  try go_ret
  exact hD.out _ _ ⟨rfl, HX5.out⟩

set_option maxRecDepth 8000 in
set_option maxHeartbeats 8000000 in
theorem bounds_4 (c s k i m : Int) (d : ByteArray) (part : Int) (w : World) (hd : d.size ≤ 300) (hm : mayReqB c s k i m d.size = true) (hp : (IntKind.u64.wrap part).tmod 9 = 4) :
    Calls Try.prog 10 #[.agg #[.int .i64 c, .int .i64 s, .int .i64 k, .int .i64 i, .int .i64 m, .string d], .int .i64 part] w fun e w' => e = .returned (.bool true) ∧ Below w.heap.size w w' := by
  refine hide_post fun D hD => ?_
  have HT : Hid (∀ V, Calls Try.prog 29 #[] V fun e w' => e = .returned (.bool true) ∧ Ext V w') := told2
  obtain ⟨W0, hW0⟩ : ∃ W0, W0 = w.alloc (.cells #[.int .i64 c, .int .i64 s, .int .i64 k, .int .i64 i, .int .i64 m, .string d] 30) := ⟨_, rfl⟩
  have kB : Blk W0 w.heap.size 30 #[.int .i64 c, .int .i64 s, .int .i64 k, .int .i64 i, .int .i64 m, .string d] := by rw [hW0]; exact Blk.new _ _ _
  have hx0 : Ext w W0 := by rw [hW0]; exact Ext.alloc _ _
  have HW0 := Lib.hid hW0
  have KB := Lib.hid kB
  have HX0 := Lib.hid hx0

  have hdm : d.size ≤ maxLen := by unfold maxLen; omega
  have CF : Hid (∀ V, Calls Try.prog 28 #[.agg #[.int .i64 c, .int .i64 s, .int .i64 k, .int .i64 i, .int .i64 m, .string d]] V fun e w' => e = .returned (.bool true) ∧ Ext V w') := fun V => by have h := few_any c s k i m d V hdm; rw [decide_eq_true hd] at h; exact h
  have CM : Hid (∀ V, Calls Try.prog 32 #[.agg #[.int .i64 c, .int .i64 s, .int .i64 k, .int .i64 i, .int .i64 m, .string d]] V fun e w' => e = .returned (.bool true) ∧ Ext V w') := fun V => by rw [← hm]; exact mayReq_any c s k i m d V hdm
  have hn : mayReqB c s 7 i m (ByteArray.size d) = false := by unfold mayReqB; apply decide_eq_false; omega
  have hd2 : ByteArray.size d ≤ maxLen := hdm
  have CX : Hid (∀ V, Calls Try.prog 32 #[.agg #[.int .i64 c, .int .i64 s, .int .i64 7, .int .i64 i, .int .i64 m, .string d]] V fun e w' => e = .returned (.bool false) ∧ Ext V w') := fun V => by rw [← hn]; exact mayReq_any c s 7 i m d V hd2
  have CP : Hid (∀ V, Calls Try.prog 31 #[.agg #[.int .i64 c, .int .i64 s, .int .i64 7, .int .i64 i, .int .i64 m, .string d]] V fun e w' => e = .returned (.tuple #[.slice none 0 0, .int .i64 1]) ∧ Ext V w') := fun V => putReq_no c s 7 i m d V hd2 hn
  clear kB hx0 hW0 hn hd2 hdm hm hd
  go_enter Try.func10, Try.ntmps10
  go_wp2_with fail
  try rw [← HW0.out]
  go_wp2_with (first
    | (go_at_call 28; (with_reducible refine (CF.out _).mono ?_); rintro e w1 ⟨rfl, hx⟩; have HX1 : Hid (Ext w w1) := HX0.out.trans hx; have k1 := KB.out.stay hx; have a0 := k1.cell 0; have a1 := k1.cell 1; have a2 := k1.cell 2; have a3 := k1.cell 3; have a4 := k1.cell 4; have a5 := k1.cell 5; simp at a0 a1 a2 a3 a4 a5; have K1 := Lib.hid k1; clear hx k1)
    | (go_at_call 32; (with_reducible refine (CM.out _).mono ?_); rintro e w2 ⟨rfl, hx⟩; have HX2 : Hid (Ext w w2) := HX1.out.trans hx; have k2 := K1.out.stay hx; have b0 := k2.cell 0; have b1 := k2.cell 1; have b2 := k2.cell 2; have b3 := k2.cell 3; have b4 := k2.cell 4; have b5 := k2.cell 5; simp at b0 b1 b2 b3 b4 b5; clear hx k2)
    | (go_at_call 31; (with_reducible refine (CP.out _).mono ?_); rintro e w3 ⟨rfl, hx⟩; have kx := (Blk.new w2 30 #[.int .i64 c, .int .i64 s, .int .i64 7, .int .i64 i, .int .i64 m, .string d]).stay hx; have HX3 : Hid (Ext w w3) := (HX2.out.trans (Ext.alloc _ _)).trans hx; have g0 := kx.cell 0; have g1 := kx.cell 1; have g2 := kx.cell 2; have g3 := kx.cell 3; have g4 := kx.cell 4; have g5 := kx.cell 5; simp at g0 g1 g2 g3 g4 g5; have KX := Lib.hid kx; clear hx kx)
    | (go_at_call 29; (with_reducible refine (HT.out _).mono ?_); rintro e w4 ⟨rfl, hx⟩; have HX4 : Hid (Ext w w4) := HX3.out.trans hx; have kx := KX.out.stay hx; have e0 := kx.cell 0; have e1 := kx.cell 1; have e2 := kx.cell 2; have e3 := kx.cell 3; have e4 := kx.cell 4; have e5 := kx.cell 5; simp at e0 e1 e2 e3 e4 e5; clear hx kx)
    | (go_at_call 32; (with_reducible refine (CX.out _).mono ?_); rintro e w5 ⟨rfl, hx⟩; have HX5 : Hid (Ext w w5) := HX4.out.trans hx; clear hx))
  try go_ret
  exact hD.out _ _ ⟨rfl, HX5.out⟩

set_option maxRecDepth 8000 in
set_option maxHeartbeats 8000000 in
theorem bounds_5 (c s k i m : Int) (d : ByteArray) (part : Int) (w : World) (hd : d.size ≤ 300) (hm : mayReqB c s k i m d.size = true) (hp : (IntKind.u64.wrap part).tmod 9 = 5) :
    Calls Try.prog 10 #[.agg #[.int .i64 c, .int .i64 s, .int .i64 k, .int .i64 i, .int .i64 m, .string d], .int .i64 part] w fun e w' => e = .returned (.bool true) ∧ Below w.heap.size w w' := by
  refine hide_post fun D hD => ?_
  have HT : Hid (∀ V, Calls Try.prog 29 #[] V fun e w' => e = .returned (.bool true) ∧ Ext V w') := told2
  obtain ⟨W0, hW0⟩ : ∃ W0, W0 = w.alloc (.cells #[.int .i64 c, .int .i64 s, .int .i64 k, .int .i64 i, .int .i64 m, .string d] 30) := ⟨_, rfl⟩
  have kB : Blk W0 w.heap.size 30 #[.int .i64 c, .int .i64 s, .int .i64 k, .int .i64 i, .int .i64 m, .string d] := by rw [hW0]; exact Blk.new _ _ _
  have hx0 : Ext w W0 := by rw [hW0]; exact Ext.alloc _ _
  have HW0 := Lib.hid hW0
  have KB := Lib.hid kB
  have HX0 := Lib.hid hx0

  have hdm : d.size ≤ maxLen := by unfold maxLen; omega
  have CF : Hid (∀ V, Calls Try.prog 28 #[.agg #[.int .i64 c, .int .i64 s, .int .i64 k, .int .i64 i, .int .i64 m, .string d]] V fun e w' => e = .returned (.bool true) ∧ Ext V w') := fun V => by have h := few_any c s k i m d V hdm; rw [decide_eq_true hd] at h; exact h
  have CM : Hid (∀ V, Calls Try.prog 32 #[.agg #[.int .i64 c, .int .i64 s, .int .i64 k, .int .i64 i, .int .i64 m, .string d]] V fun e w' => e = .returned (.bool true) ∧ Ext V w') := fun V => by rw [← hm]; exact mayReq_any c s k i m d V hdm
  have hn : mayReqB c s k 32 m (ByteArray.size d) = false := by unfold mayReqB; apply decide_eq_false; omega
  have hd2 : ByteArray.size d ≤ maxLen := hdm
  have CX : Hid (∀ V, Calls Try.prog 32 #[.agg #[.int .i64 c, .int .i64 s, .int .i64 k, .int .i64 32, .int .i64 m, .string d]] V fun e w' => e = .returned (.bool false) ∧ Ext V w') := fun V => by rw [← hn]; exact mayReq_any c s k 32 m d V hd2
  have CP : Hid (∀ V, Calls Try.prog 31 #[.agg #[.int .i64 c, .int .i64 s, .int .i64 k, .int .i64 32, .int .i64 m, .string d]] V fun e w' => e = .returned (.tuple #[.slice none 0 0, .int .i64 1]) ∧ Ext V w') := fun V => putReq_no c s k 32 m d V hd2 hn
  clear kB hx0 hW0 hn hd2 hdm hm hd
  go_enter Try.func10, Try.ntmps10
  go_wp2_with fail
  try rw [← HW0.out]
  go_wp2_with (first
    | (go_at_call 28; (with_reducible refine (CF.out _).mono ?_); rintro e w1 ⟨rfl, hx⟩; have HX1 : Hid (Ext w w1) := HX0.out.trans hx; have k1 := KB.out.stay hx; have a0 := k1.cell 0; have a1 := k1.cell 1; have a2 := k1.cell 2; have a3 := k1.cell 3; have a4 := k1.cell 4; have a5 := k1.cell 5; simp at a0 a1 a2 a3 a4 a5; have K1 := Lib.hid k1; clear hx k1)
    | (go_at_call 32; (with_reducible refine (CM.out _).mono ?_); rintro e w2 ⟨rfl, hx⟩; have HX2 : Hid (Ext w w2) := HX1.out.trans hx; have k2 := K1.out.stay hx; have b0 := k2.cell 0; have b1 := k2.cell 1; have b2 := k2.cell 2; have b3 := k2.cell 3; have b4 := k2.cell 4; have b5 := k2.cell 5; simp at b0 b1 b2 b3 b4 b5; clear hx k2)
    | (go_at_call 31; (with_reducible refine (CP.out _).mono ?_); rintro e w3 ⟨rfl, hx⟩; have kx := (Blk.new w2 30 #[.int .i64 c, .int .i64 s, .int .i64 k, .int .i64 32, .int .i64 m, .string d]).stay hx; have HX3 : Hid (Ext w w3) := (HX2.out.trans (Ext.alloc _ _)).trans hx; have g0 := kx.cell 0; have g1 := kx.cell 1; have g2 := kx.cell 2; have g3 := kx.cell 3; have g4 := kx.cell 4; have g5 := kx.cell 5; simp at g0 g1 g2 g3 g4 g5; have KX := Lib.hid kx; clear hx kx)
    | (go_at_call 29; (with_reducible refine (HT.out _).mono ?_); rintro e w4 ⟨rfl, hx⟩; have HX4 : Hid (Ext w w4) := HX3.out.trans hx; have kx := KX.out.stay hx; have e0 := kx.cell 0; have e1 := kx.cell 1; have e2 := kx.cell 2; have e3 := kx.cell 3; have e4 := kx.cell 4; have e5 := kx.cell 5; simp at e0 e1 e2 e3 e4 e5; clear hx kx)
    | (go_at_call 32; (with_reducible refine (CX.out _).mono ?_); rintro e w5 ⟨rfl, hx⟩; have HX5 : Hid (Ext w w5) := HX4.out.trans hx; clear hx))
  try go_ret
  exact hD.out _ _ ⟨rfl, HX5.out⟩

set_option maxRecDepth 8000 in
set_option maxHeartbeats 8000000 in
theorem bounds_6 (c s k i m : Int) (d : ByteArray) (part : Int) (w : World) (hd : d.size ≤ 300) (hm : mayReqB c s k i m d.size = true) (hp : (IntKind.u64.wrap part).tmod 9 = 6) :
    Calls Try.prog 10 #[.agg #[.int .i64 c, .int .i64 s, .int .i64 k, .int .i64 i, .int .i64 m, .string d], .int .i64 part] w fun e w' => e = .returned (.bool true) ∧ Below w.heap.size w w' := by
  refine hide_post fun D hD => ?_
  have HT : Hid (∀ V, Calls Try.prog 29 #[] V fun e w' => e = .returned (.bool true) ∧ Ext V w') := told2
  obtain ⟨W0, hW0⟩ : ∃ W0, W0 = w.alloc (.cells #[.int .i64 c, .int .i64 s, .int .i64 k, .int .i64 i, .int .i64 m, .string d] 30) := ⟨_, rfl⟩
  have kB : Blk W0 w.heap.size 30 #[.int .i64 c, .int .i64 s, .int .i64 k, .int .i64 i, .int .i64 m, .string d] := by rw [hW0]; exact Blk.new _ _ _
  have hx0 : Ext w W0 := by rw [hW0]; exact Ext.alloc _ _
  have HW0 := Lib.hid hW0
  have KB := Lib.hid kB
  have HX0 := Lib.hid hx0

  have hdm : d.size ≤ maxLen := by unfold maxLen; omega
  have CF : Hid (∀ V, Calls Try.prog 28 #[.agg #[.int .i64 c, .int .i64 s, .int .i64 k, .int .i64 i, .int .i64 m, .string d]] V fun e w' => e = .returned (.bool true) ∧ Ext V w') := fun V => by have h := few_any c s k i m d V hdm; rw [decide_eq_true hd] at h; exact h
  have CM : Hid (∀ V, Calls Try.prog 32 #[.agg #[.int .i64 c, .int .i64 s, .int .i64 k, .int .i64 i, .int .i64 m, .string d]] V fun e w' => e = .returned (.bool true) ∧ Ext V w') := fun V => by rw [← hm]; exact mayReq_any c s k i m d V hdm
  have hn : mayReqB c s k i 101 (ByteArray.size d) = false := by unfold mayReqB; apply decide_eq_false; omega
  have hd2 : ByteArray.size d ≤ maxLen := hdm
  have CX : Hid (∀ V, Calls Try.prog 32 #[.agg #[.int .i64 c, .int .i64 s, .int .i64 k, .int .i64 i, .int .i64 101, .string d]] V fun e w' => e = .returned (.bool false) ∧ Ext V w') := fun V => by rw [← hn]; exact mayReq_any c s k i 101 d V hd2
  have CP : Hid (∀ V, Calls Try.prog 31 #[.agg #[.int .i64 c, .int .i64 s, .int .i64 k, .int .i64 i, .int .i64 101, .string d]] V fun e w' => e = .returned (.tuple #[.slice none 0 0, .int .i64 1]) ∧ Ext V w') := fun V => putReq_no c s k i 101 d V hd2 hn
  clear kB hx0 hW0 hn hd2 hdm hm hd
  go_enter Try.func10, Try.ntmps10
  go_wp2_with fail
  try rw [← HW0.out]
  go_wp2_with (first
    | (go_at_call 28; (with_reducible refine (CF.out _).mono ?_); rintro e w1 ⟨rfl, hx⟩; have HX1 : Hid (Ext w w1) := HX0.out.trans hx; have k1 := KB.out.stay hx; have a0 := k1.cell 0; have a1 := k1.cell 1; have a2 := k1.cell 2; have a3 := k1.cell 3; have a4 := k1.cell 4; have a5 := k1.cell 5; simp at a0 a1 a2 a3 a4 a5; have K1 := Lib.hid k1; clear hx k1)
    | (go_at_call 32; (with_reducible refine (CM.out _).mono ?_); rintro e w2 ⟨rfl, hx⟩; have HX2 : Hid (Ext w w2) := HX1.out.trans hx; have k2 := K1.out.stay hx; have b0 := k2.cell 0; have b1 := k2.cell 1; have b2 := k2.cell 2; have b3 := k2.cell 3; have b4 := k2.cell 4; have b5 := k2.cell 5; simp at b0 b1 b2 b3 b4 b5; clear hx k2)
    | (go_at_call 31; (with_reducible refine (CP.out _).mono ?_); rintro e w3 ⟨rfl, hx⟩; have kx := (Blk.new w2 30 #[.int .i64 c, .int .i64 s, .int .i64 k, .int .i64 i, .int .i64 101, .string d]).stay hx; have HX3 : Hid (Ext w w3) := (HX2.out.trans (Ext.alloc _ _)).trans hx; have g0 := kx.cell 0; have g1 := kx.cell 1; have g2 := kx.cell 2; have g3 := kx.cell 3; have g4 := kx.cell 4; have g5 := kx.cell 5; simp at g0 g1 g2 g3 g4 g5; have KX := Lib.hid kx; clear hx kx)
    | (go_at_call 29; (with_reducible refine (HT.out _).mono ?_); rintro e w4 ⟨rfl, hx⟩; have HX4 : Hid (Ext w w4) := HX3.out.trans hx; have kx := KX.out.stay hx; have e0 := kx.cell 0; have e1 := kx.cell 1; have e2 := kx.cell 2; have e3 := kx.cell 3; have e4 := kx.cell 4; have e5 := kx.cell 5; simp at e0 e1 e2 e3 e4 e5; clear hx kx)
    | (go_at_call 32; (with_reducible refine (CX.out _).mono ?_); rintro e w5 ⟨rfl, hx⟩; have HX5 : Hid (Ext w w5) := HX4.out.trans hx; clear hx))
  try go_ret
  exact hD.out _ _ ⟨rfl, HX5.out⟩

set_option maxRecDepth 8000 in
set_option maxHeartbeats 8000000 in
theorem bounds_7 (c s k i m : Int) (d : ByteArray) (part : Int) (w : World) (hd : d.size ≤ 300) (hm : mayReqB c s k i m d.size = true) (hp : (IntKind.u64.wrap part).tmod 9 = 7) :
    Calls Try.prog 10 #[.agg #[.int .i64 c, .int .i64 s, .int .i64 k, .int .i64 i, .int .i64 m, .string d], .int .i64 part] w fun e w' => e = .returned (.bool true) ∧ Below w.heap.size w w' := by
  refine hide_post fun D hD => ?_
  have HT : Hid (∀ V, Calls Try.prog 29 #[] V fun e w' => e = .returned (.bool true) ∧ Ext V w') := told2
  obtain ⟨W0, hW0⟩ : ∃ W0, W0 = w.alloc (.cells #[.int .i64 c, .int .i64 s, .int .i64 k, .int .i64 i, .int .i64 m, .string d] 30) := ⟨_, rfl⟩
  have kB : Blk W0 w.heap.size 30 #[.int .i64 c, .int .i64 s, .int .i64 k, .int .i64 i, .int .i64 m, .string d] := by rw [hW0]; exact Blk.new _ _ _
  have hx0 : Ext w W0 := by rw [hW0]; exact Ext.alloc _ _
  have HW0 := Lib.hid hW0
  have KB := Lib.hid kB
  have HX0 := Lib.hid hx0
  obtain ⟨z, hz0⟩ : ∃ z, z = str (List.replicate 65 0) := ⟨_, rfl⟩
  have hdm : d.size ≤ maxLen := by unfold maxLen; omega
  have CF : Hid (∀ V, Calls Try.prog 28 #[.agg #[.int .i64 c, .int .i64 s, .int .i64 k, .int .i64 i, .int .i64 m, .string d]] V fun e w' => e = .returned (.bool true) ∧ Ext V w') := fun V => by have h := few_any c s k i m d V hdm; rw [decide_eq_true hd] at h; exact h
  have CM : Hid (∀ V, Calls Try.prog 32 #[.agg #[.int .i64 c, .int .i64 s, .int .i64 k, .int .i64 i, .int .i64 m, .string d]] V fun e w' => e = .returned (.bool true) ∧ Ext V w') := fun V => by rw [← hm]; exact mayReq_any c s k i m d V hdm
  have hn : mayReqB c s k i m (ByteArray.size z) = false := by rw [show ByteArray.size z = 65 by rw [hz0]; rfl]; unfold mayReqB; apply decide_eq_false; omega
  have hd2 : ByteArray.size z ≤ maxLen := by rw [show ByteArray.size z = 65 by rw [hz0]; rfl]; unfold maxLen; omega
  have CX : Hid (∀ V, Calls Try.prog 32 #[.agg #[.int .i64 c, .int .i64 s, .int .i64 k, .int .i64 i, .int .i64 m, .string z]] V fun e w' => e = .returned (.bool false) ∧ Ext V w') := fun V => by rw [← hn]; exact mayReq_any c s k i m z V hd2
  have CP : Hid (∀ V, Calls Try.prog 31 #[.agg #[.int .i64 c, .int .i64 s, .int .i64 k, .int .i64 i, .int .i64 m, .string z]] V fun e w' => e = .returned (.tuple #[.slice none 0 0, .int .i64 1]) ∧ Ext V w') := fun V => putReq_no c s k i m z V hd2 hn
  clear kB hx0 hW0 hn hd2 hdm hm hd
  go_enter Try.func10, Try.ntmps10
  go_wp2_with fail
  try rw [← HW0.out]
  go_wp2_with (first
    | (go_at_call 28; (with_reducible refine (CF.out _).mono ?_); rintro e w1 ⟨rfl, hx⟩; have HX1 : Hid (Ext w w1) := HX0.out.trans hx; have k1 := KB.out.stay hx; have a0 := k1.cell 0; have a1 := k1.cell 1; have a2 := k1.cell 2; have a3 := k1.cell 3; have a4 := k1.cell 4; have a5 := k1.cell 5; simp at a0 a1 a2 a3 a4 a5; have K1 := Lib.hid k1; clear hx k1)
    | (go_at_call 32; (with_reducible refine (CM.out _).mono ?_); rintro e w2 ⟨rfl, hx⟩; have HX2 : Hid (Ext w w2) := HX1.out.trans hx; have k2 := K1.out.stay hx; have b0 := k2.cell 0; have b1 := k2.cell 1; have b2 := k2.cell 2; have b3 := k2.cell 3; have b4 := k2.cell 4; have b5 := k2.cell 5; simp at b0 b1 b2 b3 b4 b5; clear hx k2)
    | (go_at_call 31; (with_reducible refine (CP.out _).mono ?_); rintro e w3 ⟨rfl, hx⟩; have kx := (Blk.new w2 30 #[.int .i64 c, .int .i64 s, .int .i64 k, .int .i64 i, .int .i64 m, .string z]).stay hx; have HX3 : Hid (Ext w w3) := (HX2.out.trans (Ext.alloc _ _)).trans hx; have g0 := kx.cell 0; have g1 := kx.cell 1; have g2 := kx.cell 2; have g3 := kx.cell 3; have g4 := kx.cell 4; have g5 := kx.cell 5; simp at g0 g1 g2 g3 g4 g5; have KX := Lib.hid kx; clear hx kx)
    | (go_at_call 29; (with_reducible refine (HT.out _).mono ?_); rintro e w4 ⟨rfl, hx⟩; have HX4 : Hid (Ext w w4) := HX3.out.trans hx; have kx := KX.out.stay hx; have e0 := kx.cell 0; have e1 := kx.cell 1; have e2 := kx.cell 2; have e3 := kx.cell 3; have e4 := kx.cell 4; have e5 := kx.cell 5; simp at e0 e1 e2 e3 e4 e5; clear hx kx)
    | (go_at_call 32; (with_reducible refine (CX.out _).mono ?_); rintro e w5 ⟨rfl, hx⟩; have HX5 : Hid (Ext w w5) := HX4.out.trans hx; clear hx))
  have hmk := run_make_row' (P := Try.prog) 54 5 (.int .u8 0) 1 Try.underlying54 info_byte rfl .i64 .i64 65 (by omega) (by omega)
  rw [show ((65 : Nat) : Int) = 65 from rfl] at hmk
  rw [hmk]
  clear hmk
  go_wp2_with fail
  obtain ⟨W3, hW3⟩ : ∃ W3, W3 = (w2.alloc (.cells #[.int .i64 c, .int .i64 s, .int .i64 k, .int .i64 i, .int .i64 m, .string d] 30)).alloc (.cells (madeCells #[.int .u8 0] 65) 5) := ⟨_, rfl⟩
  have kx : Blk W3 w2.heap.size 30 #[.int .i64 c, .int .i64 s, .int .i64 k, .int .i64 i, .int .i64 m, .string d] := by rw [hW3]; exact (Blk.new _ _ _).alloc _
  have hx3 : Ext w W3 := by rw [hW3]; exact (HX2.out.trans (Ext.alloc _ _)).trans (Ext.alloc _ _)
  have hcv : (convert 54 9 (.slice (some ⟨w2.heap.size + 1, 0, none⟩) 65 65)).run Try.prog W3 = .ok (.string z) W3 := by
    have hs : Sl Go.Proofs.Ytdbnaflaobncgaa.u8 W3 (some ⟨w2.heap.size + 1, 0, none⟩) (List.replicate 65 0) := by
      rw [hW3]
      refine Sl.of_blk (cs := madeCells #[.int .u8 0] 65) (Blk.new' _ _ _ _ (by simp)) ?_
      intro j v hj
      rw [List.getElem?_replicate] at hj
      split at hj
      · injection hj with hj
        subst hj
        rename_i h
        simp [madeCells, h, Go.Proofs.Ytdbnaflaobncgaa.u8, Nat.mod_one]
      · simp at hj
    have := run_str (P := Try.prog) (w := W3) 54 9 5 _ (List.replicate 65 0) 65 Try.underlying54 Try.underlying5 Try.underlying9 hs
    rw [List.length_replicate] at this
    rw [← hz0] at this
    exact this
  rw [← hW3, hcv]
  clear hz0
  have fx := kx.frozen 5
  have g5 := kx.cell 5
  simp at g5
  have KX0 := Lib.hid kx
  have HX3 := Lib.hid hx3
  have hy : Blk (W3.setCell ⟨w2.heap.size, 5, none⟩ (.string z)) w2.heap.size 30 #[.int .i64 c, .int .i64 s, .int .i64 k, .int .i64 i, .int .i64 m, .string z] := KX0.out.set 5 _
  have hz : Ext w (W3.setCell ⟨w2.heap.size, 5, none⟩ (.string z)) := by
    have h := HX2.out.size
    exact Below.setCell HX3.out h _
  have c0 := hy.cell 0
  have c1 := hy.cell 1
  have c2 := hy.cell 2
  have c3 := hy.cell 3
  have c4 := hy.cell 4
  have c5 := hy.cell 5
  simp at c0 c1 c2 c3 c4 c5
  have HY := Lib.hid hy
  have HZ := Lib.hid hz
  clear kx hx3 hcv hW3 hy hz
  go_wp2_with (first
    | (go_at_call 31; (with_reducible refine (CP.out _).mono ?_); rintro e w3 ⟨rfl, hx⟩; have kx := HY.out.stay hx; have HX3 : Hid (Ext w w3) := HZ.out.trans hx; have g0 := kx.cell 0; have g1 := kx.cell 1; have g2 := kx.cell 2; have g3 := kx.cell 3; have g4 := kx.cell 4; have g5 := kx.cell 5; simp at g0 g1 g2 g3 g4 g5; have KX := Lib.hid kx; clear hx kx)
    | (go_at_call 29; (with_reducible refine (HT.out _).mono ?_); rintro e w4 ⟨rfl, hx⟩; have HX4 : Hid (Ext w w4) := HX3.out.trans hx; have kx := KX.out.stay hx; have e0 := kx.cell 0; have e1 := kx.cell 1; have e2 := kx.cell 2; have e3 := kx.cell 3; have e4 := kx.cell 4; have e5 := kx.cell 5; simp at e0 e1 e2 e3 e4 e5; clear hx kx)
    | (go_at_call 32; (with_reducible refine (CX.out _).mono ?_); rintro e w5 ⟨rfl, hx⟩; have HX5 : Hid (Ext w w5) := HX4.out.trans hx; clear hx))
  try go_ret
  exact hD.out _ _ ⟨rfl, HX5.out⟩

set_option maxRecDepth 8000 in
set_option maxHeartbeats 8000000 in
theorem bounds_8 (c s k i m : Int) (d : ByteArray) (part : Int) (w : World) (hd : d.size ≤ 300) (hm : mayReqB c s k i m d.size = true) (hp : (IntKind.u64.wrap part).tmod 9 = 8) :
    Calls Try.prog 10 #[.agg #[.int .i64 c, .int .i64 s, .int .i64 k, .int .i64 i, .int .i64 m, .string d], .int .i64 part] w fun e w' => e = .returned (.bool true) ∧ Below w.heap.size w w' := by
  refine hide_post fun D hD => ?_
  have HT : Hid (∀ V, Calls Try.prog 29 #[] V fun e w' => e = .returned (.bool true) ∧ Ext V w') := told2
  obtain ⟨W0, hW0⟩ : ∃ W0, W0 = w.alloc (.cells #[.int .i64 c, .int .i64 s, .int .i64 k, .int .i64 i, .int .i64 m, .string d] 30) := ⟨_, rfl⟩
  have kB : Blk W0 w.heap.size 30 #[.int .i64 c, .int .i64 s, .int .i64 k, .int .i64 i, .int .i64 m, .string d] := by rw [hW0]; exact Blk.new _ _ _
  have hx0 : Ext w W0 := by rw [hW0]; exact Ext.alloc _ _
  have HW0 := Lib.hid hW0
  have KB := Lib.hid kB
  have HX0 := Lib.hid hx0

  have hdm : d.size ≤ maxLen := by unfold maxLen; omega
  have CF : Hid (∀ V, Calls Try.prog 28 #[.agg #[.int .i64 c, .int .i64 s, .int .i64 k, .int .i64 i, .int .i64 m, .string d]] V fun e w' => e = .returned (.bool true) ∧ Ext V w') := fun V => by have h := few_any c s k i m d V hdm; rw [decide_eq_true hd] at h; exact h
  have CM : Hid (∀ V, Calls Try.prog 32 #[.agg #[.int .i64 c, .int .i64 s, .int .i64 k, .int .i64 i, .int .i64 m, .string d]] V fun e w' => e = .returned (.bool true) ∧ Ext V w') := fun V => by rw [← hm]; exact mayReq_any c s k i m d V hdm
  have hn : mayReqB c s 0 i m (ByteArray.size d) = false := by unfold mayReqB; apply decide_eq_false; omega
  have hd2 : ByteArray.size d ≤ maxLen := hdm
  have CX : Hid (∀ V, Calls Try.prog 32 #[.agg #[.int .i64 c, .int .i64 s, .int .i64 0, .int .i64 i, .int .i64 m, .string d]] V fun e w' => e = .returned (.bool false) ∧ Ext V w') := fun V => by rw [← hn]; exact mayReq_any c s 0 i m d V hd2
  have CP : Hid (∀ V, Calls Try.prog 31 #[.agg #[.int .i64 c, .int .i64 s, .int .i64 0, .int .i64 i, .int .i64 m, .string d]] V fun e w' => e = .returned (.tuple #[.slice none 0 0, .int .i64 1]) ∧ Ext V w') := fun V => putReq_no c s 0 i m d V hd2 hn
  clear kB hx0 hW0 hn hd2 hdm hm hd
  go_enter Try.func10, Try.ntmps10
  go_wp2_with fail
  try rw [← HW0.out]
  go_wp2_with (first
    | (go_at_call 28; (with_reducible refine (CF.out _).mono ?_); rintro e w1 ⟨rfl, hx⟩; have HX1 : Hid (Ext w w1) := HX0.out.trans hx; have k1 := KB.out.stay hx; have a0 := k1.cell 0; have a1 := k1.cell 1; have a2 := k1.cell 2; have a3 := k1.cell 3; have a4 := k1.cell 4; have a5 := k1.cell 5; simp at a0 a1 a2 a3 a4 a5; have K1 := Lib.hid k1; clear hx k1)
    | (go_at_call 32; (with_reducible refine (CM.out _).mono ?_); rintro e w2 ⟨rfl, hx⟩; have HX2 : Hid (Ext w w2) := HX1.out.trans hx; have k2 := K1.out.stay hx; have b0 := k2.cell 0; have b1 := k2.cell 1; have b2 := k2.cell 2; have b3 := k2.cell 3; have b4 := k2.cell 4; have b5 := k2.cell 5; simp at b0 b1 b2 b3 b4 b5; clear hx k2)
    | (go_at_call 31; (with_reducible refine (CP.out _).mono ?_); rintro e w3 ⟨rfl, hx⟩; have kx := (Blk.new w2 30 #[.int .i64 c, .int .i64 s, .int .i64 0, .int .i64 i, .int .i64 m, .string d]).stay hx; have HX3 : Hid (Ext w w3) := (HX2.out.trans (Ext.alloc _ _)).trans hx; have g0 := kx.cell 0; have g1 := kx.cell 1; have g2 := kx.cell 2; have g3 := kx.cell 3; have g4 := kx.cell 4; have g5 := kx.cell 5; simp at g0 g1 g2 g3 g4 g5; have KX := Lib.hid kx; clear hx kx)
    | (go_at_call 29; (with_reducible refine (HT.out _).mono ?_); rintro e w4 ⟨rfl, hx⟩; have HX4 : Hid (Ext w w4) := HX3.out.trans hx; have kx := KX.out.stay hx; have e0 := kx.cell 0; have e1 := kx.cell 1; have e2 := kx.cell 2; have e3 := kx.cell 3; have e4 := kx.cell 4; have e5 := kx.cell 5; simp at e0 e1 e2 e3 e4 e5; clear hx kx)
    | (go_at_call 32; (with_reducible refine (CX.out _).mono ?_); rintro e w5 ⟨rfl, hx⟩; have HX5 : Hid (Ext w w5) := HX4.out.trans hx; clear hx))
  try go_ret
  exact hD.out _ _ ⟨rfl, HX5.out⟩

theorem walk_itemBounds (c s k i m : Int) (d : ByteArray) (part : Int) (w : World) (hd : d.size ≤ maxLen) :
    Calls Try.prog 10 #[.agg #[.int .i64 c, .int .i64 s, .int .i64 k, .int .i64 i, .int .i64 m, .string d], .int .i64 part] w fun e w' => e = .returned (.bool true) ∧ Below w.heap.size w w' := by
  by_cases hf : d.size ≤ 300
  · cases hm : mayReqB c s k i m d.size with
    | false => exact bounds_no c s k i m d part w true false hd (decide_eq_true hf) hm rfl
    | true =>
      have hw : 0 ≤ IntKind.u64.wrap part := by rw [show IntKind.u64.wrap part = part % 18446744073709551616 by simp [IntKind.wrap, IntKind.bits, IntKind.signed]]; omega
      have ha : (IntKind.u64.wrap part).tmod 9 = 0 ∨ (IntKind.u64.wrap part).tmod 9 = 1 ∨ (IntKind.u64.wrap part).tmod 9 = 2 ∨ (IntKind.u64.wrap part).tmod 9 = 3 ∨ (IntKind.u64.wrap part).tmod 9 = 4 ∨ (IntKind.u64.wrap part).tmod 9 = 5 ∨ (IntKind.u64.wrap part).tmod 9 = 6 ∨ (IntKind.u64.wrap part).tmod 9 = 7 ∨ (IntKind.u64.wrap part).tmod 9 = 8 := by rw [Int.tmod_eq_emod_of_nonneg hw]; omega
      rcases ha with h | h | h | h | h | h | h | h | h
      · exact bounds_0 c s k i m d part w hf hm h
      · exact bounds_1 c s k i m d part w hf hm h
      · exact bounds_2 c s k i m d part w hf hm h
      · exact bounds_3 c s k i m d part w hf hm h
      · exact bounds_4 c s k i m d part w hf hm h
      · exact bounds_5 c s k i m d part w hf hm h
      · exact bounds_6 c s k i m d part w hf hm h
      · exact bounds_7 c s k i m d part w hf hm h
      · exact bounds_8 c s k i m d part w hf hm h
  · exact bounds_no c s k i m d part w false _ hd (decide_eq_false hf) rfl rfl

set_option maxRecDepth 100000 in
theorem law_itemBounds {H : Type} {enc : TypeId × Value → H} (W : World) (base : Nat) (args : Array Value) (ds : List (DataW H)) (p : List MemPlace)
    (hval : ∀ (j : Nat) t v, Try.f10.params[j]? = some t → args[j]? = some v → Value.okWide Try.prog W .any base t v)
    (hA : DataW.TrodAll enc Try.prog W 0 (fun _ => true) true Try.f10.params.toList args.toList ds p) :
    Calls Try.prog 10 args W fun e W' => e = .returned (.bool true) ∧ Below W.heap.size W W' := by
  rw [Try.params10] at hA hval
  obtain ⟨v0, vs0, d0, ds0, p0, q0, hargs, rfl, rfl, h0, r0⟩ := trodAll_cons hA
  obtain ⟨v1, vs1, d1, ds1, p1, q1, rfl, rfl, rfl, h1, r1⟩ := trodAll_cons r0
  obtain ⟨rfl, rfl, rfl⟩ := trodAll_nil r1
  obtain rfl : args = #[v0, v1] := by cases args; simp_all
  obtain ⟨c0, s0, k0, i0, m0, x0, rfl, wc0, ws0, wk0, wi0, wm0, z0⟩ := open_req (hval 0 30 v0 rfl rfl) h0
  obtain ⟨a1, rfl, rfl, rfl, w1⟩ := open_int Try.underlying3 (hval 1 3 v1 rfl rfl) h1
  exact walk_itemBounds c0 s0 k0 i0 m0 x0 a1 W z0

end Go.Proofs.Ytdbnaflaobncgaa
