/-
  Ask of package past (law 22).
-/
import Derived.Test.YtnionfddejaalaaPast
import Derived.Test.YtnionfddejaalaaReq
namespace Go.Proofs.Ytnionfddejaalaa
set_option linter.unusedVariables false
set_option linter.unusedSimpArgs false
open Go.RowKit

set_option maxRecDepth 4000 in
set_option maxHeartbeats 8000000 in
theorem ask_bad (base P : Nat) (G : Option Nat) (st : Ps) (s k i m : Int) (d : ByteArray) (c : Int) (w : World) (H : PAt w base P G st) (hd : d.size ≤ maxLen) (hm : mayReqB c s k i m d.size = false) :
    Calls Try.prog 11 #[.pointer (some ⟨P, 0, none⟩), .agg #[.int .i64 c, .int .i64 s, .int .i64 k, .int .i64 i, .int .i64 m, .string d]] w fun e w' => e = .returned (.int .i64 1) ∧ Ext w w' := by
  refine hide_post fun D hD => ?_
  obtain ⟨w0, hw0⟩ : ∃ w0, w0 = w.alloc (.cells #[.int .i64 c, .int .i64 s, .int .i64 k, .int .i64 i, .int .i64 m, .string d] 29) := ⟨_, rfl⟩
  have hb0 : Ext w w0 := by rw [hw0]; exact Ext.alloc _ _
  have KQ : Hid (Blk w0 w.heap.size 29 #[.int .i64 c, .int .i64 s, .int .i64 k, .int .i64 i, .int .i64 m, .string d]) := by show Blk _ _ _ _; rw [hw0]; exact Blk.new _ _ _
  have CM : Hid (∀ V, Calls Try.prog 35 #[.agg #[.int .i64 c, .int .i64 s, .int .i64 k, .int .i64 i, .int .i64 m, .string d]] V fun e w' => e = .returned (.bool false) ∧ Ext V w') := fun V => by rw [← hm]; exact mayReq_any c s k i m d V hd
  have X0 : Hid (Ext w w0) := hb0
  have HW := Lib.hid hw0
  clear hb0 hw0 H hm hd
  go_enter Try.func11, Try.ntmps11
  go_wp2_with (go_at_call 35; rw [← HW.out]; (with_reducible refine (CM.out _).mono ?_); rintro e w1 ⟨rfl, hx⟩; have X1 : Hid (Ext w w1) := Ext.trans X0.out hx; clear hx)
  try go_ret
  exact hD.out _ _ ⟨rfl, X1.out⟩

set_option maxRecDepth 4000 in
set_option maxHeartbeats 8000000 in
theorem ask_wait0 (base P : Nat) (G : Option Nat) (st : Ps) (s k i m : Int) (d : ByteArray) (w : World) (H : PAt w base P G st) (hd : d.size ≤ maxLen) (hm : mayReqB 0 s k i m d.size = true) (hs : ∃ x, st.w 0 = some x) :
    Calls Try.prog 11 #[.pointer (some ⟨P, 0, none⟩), .agg #[.int .i64 0, .int .i64 s, .int .i64 k, .int .i64 i, .int .i64 m, .string d]] w fun e w' => e = .returned (.int .i64 4) ∧ Ext w w' := by
  refine hide_post fun D hD => ?_
  obtain ⟨hbP, v, l0, l1, l2, l3, p0, p1, p2, p3, o0, o1, o2, o3, L, kP, hl, hw, hwt, hown, hG, hL, hin⟩ := H
  obtain ⟨w0, hw0⟩ : ∃ w0, w0 = w.alloc (.cells #[.int .i64 0, .int .i64 s, .int .i64 k, .int .i64 i, .int .i64 m, .string d] 29) := ⟨_, rfl⟩
  have hb0 : Ext w w0 := by rw [hw0]; exact Ext.alloc _ _
  have KQ : Hid (Blk w0 w.heap.size 29 #[.int .i64 0, .int .i64 s, .int .i64 k, .int .i64 i, .int .i64 m, .string d]) := by show Blk _ _ _ _; rw [hw0]; exact Blk.new _ _ _
  have CM : Hid (∀ V, Calls Try.prog 35 #[.agg #[.int .i64 0, .int .i64 s, .int .i64 k, .int .i64 i, .int .i64 m, .string d]] V fun e w' => e = .returned (.bool true) ∧ Ext V w') := fun V => by rw [← hm]; exact mayReq_any 0 s k i m d V hd
  have X0 : Hid (Ext w w0) := hb0
  have HW := Lib.hid hw0
  obtain ⟨x, hx⟩ := hs
  have ho : o0 = some x := by unfold Ps.w at hx; rw [hw] at hx; exact hx
  subst ho
  obtain ⟨gq, rfl, hgq⟩ := hwt.1
  have y0 : ∀ V, Ext w0 V → V.cell? ⟨P, 0, none⟩ = some (v) := fun V h => (((kP.stay hb0).stay h)).cell 0
  have y1 : ∀ V, Ext w0 V → V.cell? ⟨P, 1, none⟩ = some (.int .i64 l0) := fun V h => (((kP.stay hb0).stay h)).cell 1
  have y5 : ∀ V, Ext w0 V → V.cell? ⟨P, 5, none⟩ = some (.pointer (some ⟨gq, 0, none⟩)) := fun V h => (((kP.stay hb0).stay h)).cell 5
  have z0 : ∀ V, Ext w0 V → V.cell? ⟨w.heap.size, 0, none⟩ = some (.int .i64 0) := fun V h => ((KQ.out.stay h)).cell 0
  have z1 : ∀ V, Ext w0 V → V.cell? ⟨w.heap.size, 1, none⟩ = some (.int .i64 s) := fun V h => ((KQ.out.stay h)).cell 1
  have z2 : ∀ V, Ext w0 V → V.cell? ⟨w.heap.size, 2, none⟩ = some (.int .i64 k) := fun V h => ((KQ.out.stay h)).cell 2
  have z3 : ∀ V, Ext w0 V → V.cell? ⟨w.heap.size, 3, none⟩ = some (.int .i64 i) := fun V h => ((KQ.out.stay h)).cell 3
  have z4 : ∀ V, Ext w0 V → V.cell? ⟨w.heap.size, 4, none⟩ = some (.int .i64 m) := fun V h => ((KQ.out.stay h)).cell 4
  have z5 : ∀ V, Ext w0 V → V.cell? ⟨w.heap.size, 5, none⟩ = some (.string d) := fun V h => ((KQ.out.stay h)).cell 5
  clear hb0 hw0 kP hl hw hwt hown hG hL hin hm hd hx hgq
  go_enter Try.func11, Try.ntmps11
  go_wp2_with (go_at_call 35; rw [← HW.out]; (with_reducible refine (CM.out _).mono ?_); rintro e w1 ⟨rfl, hx⟩; have E1 : Hid (Ext w0 w1) := hx; clear hx)
  refine ext_begin (by kernel_rfl) ?_
  have E1d := Lib.hid (Ext.drewR E1.out)
  refine ext_take (i := 0) (v := ?_) rfl (by kernel_rfl) (by kernel_rfl) (by kernel_rfl) (fun _ _ _ h => h) (by rfl) ?_ ?_
  rotate_left
  · intro W hW; have hW0 := Ext.trans E1d.out hW; clear hW; go_simp <;> with_reducible rfl
  try simp only [Act.put, List.setIfInBounds_toArray, List.set_cons_zero, List.set_cons_succ]
  refine ext_take (i := 1) (v := ?_) rfl (by kernel_rfl) (by kernel_rfl) (by kernel_rfl) (fun _ _ _ h => h) (by rfl) ?_ ?_
  rotate_left
  · intro W hW; have hW0 := Ext.trans E1d.out hW; clear hW; go_simp <;> with_reducible rfl
  try simp only [Act.put, List.setIfInBounds_toArray, List.set_cons_zero, List.set_cons_succ]
  refine ext_take (i := 2) (v := ?_) rfl (by kernel_rfl) (by kernel_rfl) (by kernel_rfl) (fun _ _ _ h => h) (by rfl) ?_ ?_
  rotate_left
  · intro W hW; have hW0 := Ext.trans E1d.out hW; clear hW; go_simp <;> with_reducible rfl
  try simp only [Act.put, List.setIfInBounds_toArray, List.set_cons_zero, List.set_cons_succ]
  refine ext_take (i := 3) (v := ?_) rfl (by kernel_rfl) (by kernel_rfl) (by kernel_rfl) (fun _ _ _ h => h) (by rfl) ?_ ?_
  rotate_left
  · intro W hW; have hW0 := Ext.trans E1d.out hW; clear hW; go_simp <;> with_reducible rfl
  try simp only [Act.put, List.setIfInBounds_toArray, List.set_cons_zero, List.set_cons_succ]
  refine ext_take (i := 4) (v := ?_) rfl (by kernel_rfl) (by kernel_rfl) (by kernel_rfl) (fun _ _ _ h => h) (by rfl) ?_ ?_
  rotate_left
  · intro W hW; have hW0 := Ext.trans E1d.out hW; clear hW; go_simp <;> with_reducible rfl
  try simp only [Act.put, List.setIfInBounds_toArray, List.set_cons_zero, List.set_cons_succ]
  refine ext_take (i := 5) (v := ?_) rfl (by kernel_rfl) (by kernel_rfl) (by kernel_rfl) (fun _ _ _ h => h) (by rfl) ?_ ?_
  rotate_left
  · intro W hW; have hW0 := Ext.trans E1d.out hW; clear hW; go_simp <;> with_reducible rfl
  try simp only [Act.put, List.setIfInBounds_toArray, List.set_cons_zero, List.set_cons_succ]
  refine ext_take (i := 6) (v := ?_) rfl (by kernel_rfl) (by kernel_rfl) (by kernel_rfl) (fun _ _ _ h => h) (by rfl) ?_ ?_
  rotate_left
  · intro W hW; have hW0 := Ext.trans E1d.out hW; clear hW; go_simp <;> with_reducible rfl
  try simp only [Act.put, List.setIfInBounds_toArray, List.set_cons_zero, List.set_cons_succ]
  refine ext_take (i := 7) (v := ?_) rfl (by kernel_rfl) (by kernel_rfl) (by kernel_rfl) (fun _ _ _ h => h) (by rfl) ?_ ?_
  rotate_left
  · intro W hW; have hW0 := Ext.trans E1d.out hW; clear hW; go_simp <;> with_reducible rfl
  try simp only [Act.put, List.setIfInBounds_toArray, List.set_cons_zero, List.set_cons_succ]
  refine ext_take (i := 8) (v := ?_) rfl (by kernel_rfl) (by kernel_rfl) (by kernel_rfl) (fun _ _ _ h => h) (by rfl) ?_ ?_
  rotate_left
  · intro W hW; have hW0 := Ext.trans E1d.out hW; clear hW; go_simp <;> with_reducible rfl
  try simp only [Act.put, List.setIfInBounds_toArray, List.set_cons_zero, List.set_cons_succ]
  refine wpAnyH_done (by kernel_rfl) ?_ _
  have EX := Lib.hid E1d.out
  clear E1d
  try go_wp2_with fail
  try go_ret
  exact hD.out _ _ ⟨rfl, Ext.trans X0.out EX.out⟩

set_option maxRecDepth 4000 in
set_option maxHeartbeats 8000000 in
theorem ask_old0 (base P : Nat) (G : Option Nat) (st : Ps) (s k i m : Int) (d : ByteArray) (w : World) (H : PAt w base P G st) (hd : d.size ≤ maxLen) (hm : mayReqB 0 s k i m d.size = true) (hs : st.w 0 = none) (ht : s ≤ st.la 0) :
    Calls Try.prog 11 #[.pointer (some ⟨P, 0, none⟩), .agg #[.int .i64 0, .int .i64 s, .int .i64 k, .int .i64 i, .int .i64 m, .string d]] w fun e w' => e = .returned (.int .i64 9) ∧ Ext w w' := by
  refine hide_post fun D hD => ?_
  obtain ⟨hbP, v, l0, l1, l2, l3, p0, p1, p2, p3, o0, o1, o2, o3, L, kP, hl, hw, hwt, hown, hG, hL, hin⟩ := H
  obtain ⟨w0, hw0⟩ : ∃ w0, w0 = w.alloc (.cells #[.int .i64 0, .int .i64 s, .int .i64 k, .int .i64 i, .int .i64 m, .string d] 29) := ⟨_, rfl⟩
  have hb0 : Ext w w0 := by rw [hw0]; exact Ext.alloc _ _
  have KQ : Hid (Blk w0 w.heap.size 29 #[.int .i64 0, .int .i64 s, .int .i64 k, .int .i64 i, .int .i64 m, .string d]) := by show Blk _ _ _ _; rw [hw0]; exact Blk.new _ _ _
  have CM : Hid (∀ V, Calls Try.prog 35 #[.agg #[.int .i64 0, .int .i64 s, .int .i64 k, .int .i64 i, .int .i64 m, .string d]] V fun e w' => e = .returned (.bool true) ∧ Ext V w') := fun V => by rw [← hm]; exact mayReq_any 0 s k i m d V hd
  have X0 : Hid (Ext w w0) := hb0
  have HW := Lib.hid hw0
  have ho : o0 = none := by unfold Ps.w at hs; rw [hw] at hs; exact hs
  have hlc : l0 = st.la 0 := by unfold Ps.la; rw [hl]; rfl
  obtain rfl : p0 = .pointer none := by have h5 := hwt.1; rw [ho] at h5; exact h5
  rw [← hlc] at ht
  have CW : Hid (∀ V, Calls Try.prog 36 #[.agg #[.int .i64 0, .int .i64 s, .int .i64 k, .int .i64 i, .int .i64 m, .string d], .int .i64 l0] V fun e w' => e = .returned (.bool false) ∧ Ext V w') := fun V => by
    have h5 := newer_any 0 s k i m d l0 V hd
    rw [hm, Bool.true_and, decide_eq_false (by omega)] at h5
    exact h5
  have y0 : ∀ V, Ext w0 V → V.cell? ⟨P, 0, none⟩ = some (v) := fun V h => (((kP.stay hb0).stay h)).cell 0
  have y1 : ∀ V, Ext w0 V → V.cell? ⟨P, 1, none⟩ = some (.int .i64 l0) := fun V h => (((kP.stay hb0).stay h)).cell 1
  have y5 : ∀ V, Ext w0 V → V.cell? ⟨P, 5, none⟩ = some (.pointer none) := fun V h => (((kP.stay hb0).stay h)).cell 5
  have z0 : ∀ V, Ext w0 V → V.cell? ⟨w.heap.size, 0, none⟩ = some (.int .i64 0) := fun V h => ((KQ.out.stay h)).cell 0
  have z1 : ∀ V, Ext w0 V → V.cell? ⟨w.heap.size, 1, none⟩ = some (.int .i64 s) := fun V h => ((KQ.out.stay h)).cell 1
  have z2 : ∀ V, Ext w0 V → V.cell? ⟨w.heap.size, 2, none⟩ = some (.int .i64 k) := fun V h => ((KQ.out.stay h)).cell 2
  have z3 : ∀ V, Ext w0 V → V.cell? ⟨w.heap.size, 3, none⟩ = some (.int .i64 i) := fun V h => ((KQ.out.stay h)).cell 3
  have z4 : ∀ V, Ext w0 V → V.cell? ⟨w.heap.size, 4, none⟩ = some (.int .i64 m) := fun V h => ((KQ.out.stay h)).cell 4
  have z5 : ∀ V, Ext w0 V → V.cell? ⟨w.heap.size, 5, none⟩ = some (.string d) := fun V h => ((KQ.out.stay h)).cell 5
  clear hb0 hw0 kP hl hw hwt hown hG hL hin hm hd hs ht ho hlc
  go_enter Try.func11, Try.ntmps11
  go_wp2_with (go_at_call 35; rw [← HW.out]; (with_reducible refine (CM.out _).mono ?_); rintro e w1 ⟨rfl, hx⟩; have E1 : Hid (Ext w0 w1) := hx; clear hx)
  refine ext_begin (by kernel_rfl) ?_
  have E1d := Lib.hid (Ext.drewR E1.out)
  refine ext_take (i := 0) (v := ?_) rfl (by kernel_rfl) (by kernel_rfl) (by kernel_rfl) (fun _ _ _ h => h) (by rfl) ?_ ?_
  rotate_left
  · intro W hW; have hW0 := Ext.trans E1d.out hW; clear hW; go_simp <;> with_reducible rfl
  try simp only [Act.put, List.setIfInBounds_toArray, List.set_cons_zero, List.set_cons_succ]
  refine ext_take (i := 1) (v := ?_) rfl (by kernel_rfl) (by kernel_rfl) (by kernel_rfl) (fun _ _ _ h => h) (by rfl) ?_ ?_
  rotate_left
  · intro W hW; have hW0 := Ext.trans E1d.out hW; clear hW; go_simp <;> with_reducible rfl
  try simp only [Act.put, List.setIfInBounds_toArray, List.set_cons_zero, List.set_cons_succ]
  refine ext_take (i := 2) (v := ?_) rfl (by kernel_rfl) (by kernel_rfl) (by kernel_rfl) (fun _ _ _ h => h) (by rfl) ?_ ?_
  rotate_left
  · intro W hW; have hW0 := Ext.trans E1d.out hW; clear hW; go_simp <;> with_reducible rfl
  try simp only [Act.put, List.setIfInBounds_toArray, List.set_cons_zero, List.set_cons_succ]
  refine ext_take (i := 3) (v := ?_) rfl (by kernel_rfl) (by kernel_rfl) (by kernel_rfl) (fun _ _ _ h => h) (by rfl) ?_ ?_
  rotate_left
  · intro W hW; have hW0 := Ext.trans E1d.out hW; clear hW; go_simp <;> with_reducible rfl
  try simp only [Act.put, List.setIfInBounds_toArray, List.set_cons_zero, List.set_cons_succ]
  refine ext_take (i := 4) (v := ?_) rfl (by kernel_rfl) (by kernel_rfl) (by kernel_rfl) (fun _ _ _ h => h) (by rfl) ?_ ?_
  rotate_left
  · intro W hW; have hW0 := Ext.trans E1d.out hW; clear hW; go_simp <;> with_reducible rfl
  try simp only [Act.put, List.setIfInBounds_toArray, List.set_cons_zero, List.set_cons_succ]
  refine ext_take (i := 5) (v := ?_) rfl (by kernel_rfl) (by kernel_rfl) (by kernel_rfl) (fun _ _ _ h => h) (by rfl) ?_ ?_
  rotate_left
  · intro W hW; have hW0 := Ext.trans E1d.out hW; clear hW; go_simp <;> with_reducible rfl
  try simp only [Act.put, List.setIfInBounds_toArray, List.set_cons_zero, List.set_cons_succ]
  refine ext_take (i := 6) (v := ?_) rfl (by kernel_rfl) (by kernel_rfl) (by kernel_rfl) (fun _ _ _ h => h) (by rfl) ?_ ?_
  rotate_left
  · intro W hW; have hW0 := Ext.trans E1d.out hW; clear hW; go_simp <;> with_reducible rfl
  try simp only [Act.put, List.setIfInBounds_toArray, List.set_cons_zero, List.set_cons_succ]
  refine ext_take (i := 7) (v := ?_) rfl (by kernel_rfl) (by kernel_rfl) (by kernel_rfl) (fun _ _ _ h => h) (by rfl) ?_ ?_
  rotate_left
  · intro W hW; have hW0 := Ext.trans E1d.out hW; clear hW; go_simp <;> with_reducible rfl
  try simp only [Act.put, List.setIfInBounds_toArray, List.set_cons_zero, List.set_cons_succ]
  refine ext_take (i := 8) (v := ?_) rfl (by kernel_rfl) (by kernel_rfl) (by kernel_rfl) (fun _ _ _ h => h) (by rfl) ?_ ?_
  rotate_left
  · intro W hW; have hW0 := Ext.trans E1d.out hW; clear hW; go_simp <;> with_reducible rfl
  try simp only [Act.put, List.setIfInBounds_toArray, List.set_cons_zero, List.set_cons_succ]
  refine wpAnyH_done (by kernel_rfl) ?_ _
  try go_wp2_with fail
  refine ext_begin (by kernel_rfl) ?_
  have E1dd := Lib.hid (Ext.drewR E1d.out)
  refine ext_take (i := 0) (v := ?_) rfl (by kernel_rfl) (by kernel_rfl) (by kernel_rfl) (fun _ _ _ h => h) (by rfl) ?_ ?_
  rotate_left
  · intro W hW; have hW0 := Ext.trans E1dd.out hW; clear hW; go_simp <;> with_reducible rfl
  try simp only [Act.put, List.setIfInBounds_toArray, List.set_cons_zero, List.set_cons_succ]
  refine ext_take (i := 1) (v := ?_) rfl (by kernel_rfl) (by kernel_rfl) (by kernel_rfl) (fun _ _ _ h => h) (by rfl) ?_ ?_
  rotate_left
  · intro W hW; have hW0 := Ext.trans E1dd.out hW; clear hW; go_simp <;> with_reducible rfl
  try simp only [Act.put, List.setIfInBounds_toArray, List.set_cons_zero, List.set_cons_succ]
  refine ext_take (i := 2) (v := ?_) rfl (by kernel_rfl) (by kernel_rfl) (by kernel_rfl) (fun _ _ _ h => h) (by rfl) ?_ ?_
  rotate_left
  · intro W hW; have hW0 := Ext.trans E1dd.out hW; clear hW; go_simp <;> with_reducible rfl
  try simp only [Act.put, List.setIfInBounds_toArray, List.set_cons_zero, List.set_cons_succ]
  refine ext_take (i := 3) (v := ?_) rfl (by kernel_rfl) (by kernel_rfl) (by kernel_rfl) (fun _ _ _ h => h) (by rfl) ?_ ?_
  rotate_left
  · intro W hW; have hW0 := Ext.trans E1dd.out hW; clear hW; go_simp <;> with_reducible rfl
  try simp only [Act.put, List.setIfInBounds_toArray, List.set_cons_zero, List.set_cons_succ]
  refine ext_take (i := 4) (v := ?_) rfl (by kernel_rfl) (by kernel_rfl) (by kernel_rfl) (fun _ _ _ h => h) (by rfl) ?_ ?_
  rotate_left
  · intro W hW; have hW0 := Ext.trans E1dd.out hW; clear hW; go_simp <;> with_reducible rfl
  try simp only [Act.put, List.setIfInBounds_toArray, List.set_cons_zero, List.set_cons_succ]
  refine ext_take (i := 5) (v := ?_) rfl (by kernel_rfl) (by kernel_rfl) (by kernel_rfl) (fun _ _ _ h => h) (by rfl) ?_ ?_
  rotate_left
  · intro W hW; have hW0 := Ext.trans E1dd.out hW; clear hW; go_simp <;> with_reducible rfl
  try simp only [Act.put, List.setIfInBounds_toArray, List.set_cons_zero, List.set_cons_succ]
  refine ext_take (i := 6) (v := ?_) rfl (by kernel_rfl) (by kernel_rfl) (by kernel_rfl) (fun _ _ _ h => h) (by rfl) ?_ ?_
  rotate_left
  · intro W hW; have hW0 := Ext.trans E1dd.out hW; clear hW; go_simp <;> with_reducible rfl
  try simp only [Act.put, List.setIfInBounds_toArray, List.set_cons_zero, List.set_cons_succ]
  refine ext_take (i := 7) (v := ?_) rfl (by kernel_rfl) (by kernel_rfl) (by kernel_rfl) (fun _ _ _ h => h) (by rfl) ?_ ?_
  rotate_left
  · intro W hW; have hW0 := Ext.trans E1dd.out hW; clear hW; go_simp <;> with_reducible rfl
  try simp only [Act.put, List.setIfInBounds_toArray, List.set_cons_zero, List.set_cons_succ]
  refine ext_call (i := 8) rfl (by kernel_rfl) (by rfl) (fun K' hK => ?_)
  go_simp
  (go_at_call 36; (with_reducible refine (CW.out _).mono ?_); rintro e w2 ⟨rfl, hx⟩; refine hK _ _ hx ?_; clear hK)
  have Ew2 := Lib.hid (Ext.trans E1dd.out hx)
  clear hx
  try simp only [Act.put, List.setIfInBounds_toArray, List.set_cons_zero, List.set_cons_succ]
  refine ext_take (i := 9) (v := ?_) rfl (by kernel_rfl) (by kernel_rfl) (by kernel_rfl) (fun _ _ _ h => h) (by rfl) ?_ ?_
  rotate_left
  · intro W hW; have hW0 := Ext.trans Ew2.out hW; clear hW; go_simp <;> with_reducible rfl
  try simp only [Act.put, List.setIfInBounds_toArray, List.set_cons_zero, List.set_cons_succ]
  refine ext_take (i := 10) (v := ?_) rfl (by kernel_rfl) (by kernel_rfl) (by kernel_rfl) (fun _ _ _ h => h) (by rfl) ?_ ?_
  rotate_left
  · intro W hW; have hW0 := Ext.trans Ew2.out hW; clear hW; go_simp <;> with_reducible rfl
  try simp only [Act.put, List.setIfInBounds_toArray, List.set_cons_zero, List.set_cons_succ]
  refine wpAnyH_done (by kernel_rfl) ?_ _
  have EX := Lib.hid Ew2.out
  clear E1d Ew2
  try go_wp2_with fail
  try go_ret
  exact hD.out _ _ ⟨rfl, Ext.trans X0.out EX.out⟩

set_option maxRecDepth 4000 in
set_option maxHeartbeats 8000000 in
theorem ask_ok0 (base P : Nat) (G : Option Nat) (st : Ps) (s k i m : Int) (d : ByteArray) (w : World) (H : PAt w base P G st) (hd : d.size ≤ maxLen) (hm : mayReqB 0 s k i m d.size = true) (hs : st.w 0 = none) (ht : st.la 0 < s) (hn : st.acts.length ≤ 1000000) :
    Calls Try.prog 11 #[.pointer (some ⟨P, 0, none⟩), .agg #[.int .i64 0, .int .i64 s, .int .i64 k, .int .i64 i, .int .i64 m, .string d]] w fun e w' => e = .returned (.int .i64 0) ∧ POut w w' base P G (askS st ⟨0, s, k, i, m, d⟩) := by
  refine hide_post fun D hD => ?_
  have hsel := H.sel
  have hlt := H.lt
  obtain ⟨hbP, v, l0, l1, l2, l3, p0, p1, p2, p3, o0, o1, o2, o3, L, kP, hl, hw, hwt, hown, hG, hL, hin⟩ := H
  obtain ⟨w0, hw0⟩ : ∃ w0, w0 = w.alloc (.cells #[.int .i64 0, .int .i64 s, .int .i64 k, .int .i64 i, .int .i64 m, .string d] 29) := ⟨_, rfl⟩
  have hb0 : Ext w w0 := by rw [hw0]; exact Ext.alloc _ _
  have KQ : Hid (Blk w0 w.heap.size 29 #[.int .i64 0, .int .i64 s, .int .i64 k, .int .i64 i, .int .i64 m, .string d]) := by show Blk _ _ _ _; rw [hw0]; exact Blk.new _ _ _
  have CM : Hid (∀ V, Calls Try.prog 35 #[.agg #[.int .i64 0, .int .i64 s, .int .i64 k, .int .i64 i, .int .i64 m, .string d]] V fun e w' => e = .returned (.bool true) ∧ Ext V w') := fun V => by rw [← hm]; exact mayReq_any 0 s k i m d V hd
  have X0 : Hid (Ext w w0) := hb0
  have HW := Lib.hid hw0
  have ho : o0 = none := by unfold Ps.w at hs; rw [hw] at hs; exact hs
  have hlc : l0 = st.la 0 := by unfold Ps.la; rw [hl]; rfl
  obtain rfl : p0 = .pointer none := by have h5 := hwt.1; rw [ho] at h5; exact h5
  rw [← hlc] at ht
  have CW : Hid (∀ V, Calls Try.prog 36 #[.agg #[.int .i64 0, .int .i64 s, .int .i64 k, .int .i64 i, .int .i64 m, .string d], .int .i64 l0] V fun e w' => e = .returned (.bool true) ∧ Ext V w') := fun V => by
    have h5 := newer_any 0 s k i m d l0 V hd
    rw [hm, Bool.true_and, decide_eq_true ht] at h5
    exact h5
  have y0 : ∀ V, Ext w0 V → V.cell? ⟨P, 0, none⟩ = some (v) := fun V h => (((kP.stay hb0).stay h)).cell 0
  have y1 : ∀ V, Ext w0 V → V.cell? ⟨P, 1, none⟩ = some (.int .i64 l0) := fun V h => (((kP.stay hb0).stay h)).cell 1
  have y5 : ∀ V, Ext w0 V → V.cell? ⟨P, 5, none⟩ = some (.pointer none) := fun V h => (((kP.stay hb0).stay h)).cell 5
  have z0 : ∀ V, Ext w0 V → V.cell? ⟨w.heap.size, 0, none⟩ = some (.int .i64 0) := fun V h => ((KQ.out.stay h)).cell 0
  have z1 : ∀ V, Ext w0 V → V.cell? ⟨w.heap.size, 1, none⟩ = some (.int .i64 s) := fun V h => ((KQ.out.stay h)).cell 1
  have z2 : ∀ V, Ext w0 V → V.cell? ⟨w.heap.size, 2, none⟩ = some (.int .i64 k) := fun V h => ((KQ.out.stay h)).cell 2
  have z3 : ∀ V, Ext w0 V → V.cell? ⟨w.heap.size, 3, none⟩ = some (.int .i64 i) := fun V h => ((KQ.out.stay h)).cell 3
  have z4 : ∀ V, Ext w0 V → V.cell? ⟨w.heap.size, 4, none⟩ = some (.int .i64 m) := fun V h => ((KQ.out.stay h)).cell 4
  have z5 : ∀ V, Ext w0 V → V.cell? ⟨w.heap.size, 5, none⟩ = some (.string d) := fun V h => ((KQ.out.stay h)).cell 5
  have hLn : L.length ≤ 1000000000 := by have h5 := congrArg List.length hL; rw [List.length_map] at h5; omega
  have HLN : Hid (L.length ≤ 1000000000) := hLn
  have HKP := Lib.hid (kP.stay hb0)
  have HKPw := Lib.hid kP
  have HOWNw := Lib.hid hown
  have HWT := Lib.hid hwt
  have HOWN := Lib.hid hown
  have HG : Hid (v.ownBlock = G) := hG
  have HL := Lib.hid hL
  have HIN := Lib.hid hin
  have HBP : Hid (base ≤ P) := hbP
  have HBS : Hid (base ≤ w.heap.size) := Nat.le_trans hbP (Nat.le_of_lt hlt)
  have HLT : Hid (P < w.heap.size) := hlt
  have HLS := Lib.hid hl
  have HWS := Lib.hid hw
  have HNP : Hid (¬ some P = G) := fun e => by
    obtain ⟨cs, hc⟩ := own_blk hown (hG.trans e.symm)
    exact Blk.apart kP hc (by decide) rfl
  clear hb0 hw0 kP hl hw hwt hown hG hL hin hm hd hs ht ho hlc hlt hsel hbP hLn
  obtain ⟨g, hg⟩ : ∃ g, g = w.heap.size := ⟨_, rfl⟩
  have HGG := Lib.hid hg
  rw [← hg] at KQ z0 z1 z2 z3 z4 z5
  go_enter Try.func11, Try.ntmps11
  go_wp2_with (go_at_call 35; rw [← HW.out]; (with_reducible refine (CM.out _).mono ?_); rintro e w1 ⟨rfl, hx⟩; have E1 : Hid (Ext w0 w1) := hx; clear hx)
  rw [← HGG.out]
  clear hg
  refine ext_begin (by kernel_rfl) ?_
  have E1d := Lib.hid (Ext.drewR E1.out)
  refine ext_take (i := 0) (v := ?_) rfl (by kernel_rfl) (by kernel_rfl) (by kernel_rfl) (fun _ _ _ h => h) (by rfl) ?_ ?_
  rotate_left
  · intro W hW; have hW0 := Ext.trans E1d.out hW; clear hW; go_simp <;> with_reducible rfl
  try simp only [Act.put, List.setIfInBounds_toArray, List.set_cons_zero, List.set_cons_succ]
  refine ext_take (i := 1) (v := ?_) rfl (by kernel_rfl) (by kernel_rfl) (by kernel_rfl) (fun _ _ _ h => h) (by rfl) ?_ ?_
  rotate_left
  · intro W hW; have hW0 := Ext.trans E1d.out hW; clear hW; go_simp <;> with_reducible rfl
  try simp only [Act.put, List.setIfInBounds_toArray, List.set_cons_zero, List.set_cons_succ]
  refine ext_take (i := 2) (v := ?_) rfl (by kernel_rfl) (by kernel_rfl) (by kernel_rfl) (fun _ _ _ h => h) (by rfl) ?_ ?_
  rotate_left
  · intro W hW; have hW0 := Ext.trans E1d.out hW; clear hW; go_simp <;> with_reducible rfl
  try simp only [Act.put, List.setIfInBounds_toArray, List.set_cons_zero, List.set_cons_succ]
  refine ext_take (i := 3) (v := ?_) rfl (by kernel_rfl) (by kernel_rfl) (by kernel_rfl) (fun _ _ _ h => h) (by rfl) ?_ ?_
  rotate_left
  · intro W hW; have hW0 := Ext.trans E1d.out hW; clear hW; go_simp <;> with_reducible rfl
  try simp only [Act.put, List.setIfInBounds_toArray, List.set_cons_zero, List.set_cons_succ]
  refine ext_take (i := 4) (v := ?_) rfl (by kernel_rfl) (by kernel_rfl) (by kernel_rfl) (fun _ _ _ h => h) (by rfl) ?_ ?_
  rotate_left
  · intro W hW; have hW0 := Ext.trans E1d.out hW; clear hW; go_simp <;> with_reducible rfl
  try simp only [Act.put, List.setIfInBounds_toArray, List.set_cons_zero, List.set_cons_succ]
  refine ext_take (i := 5) (v := ?_) rfl (by kernel_rfl) (by kernel_rfl) (by kernel_rfl) (fun _ _ _ h => h) (by rfl) ?_ ?_
  rotate_left
  · intro W hW; have hW0 := Ext.trans E1d.out hW; clear hW; go_simp <;> with_reducible rfl
  try simp only [Act.put, List.setIfInBounds_toArray, List.set_cons_zero, List.set_cons_succ]
  refine ext_take (i := 6) (v := ?_) rfl (by kernel_rfl) (by kernel_rfl) (by kernel_rfl) (fun _ _ _ h => h) (by rfl) ?_ ?_
  rotate_left
  · intro W hW; have hW0 := Ext.trans E1d.out hW; clear hW; go_simp <;> with_reducible rfl
  try simp only [Act.put, List.setIfInBounds_toArray, List.set_cons_zero, List.set_cons_succ]
  refine ext_take (i := 7) (v := ?_) rfl (by kernel_rfl) (by kernel_rfl) (by kernel_rfl) (fun _ _ _ h => h) (by rfl) ?_ ?_
  rotate_left
  · intro W hW; have hW0 := Ext.trans E1d.out hW; clear hW; go_simp <;> with_reducible rfl
  try simp only [Act.put, List.setIfInBounds_toArray, List.set_cons_zero, List.set_cons_succ]
  refine ext_take (i := 8) (v := ?_) rfl (by kernel_rfl) (by kernel_rfl) (by kernel_rfl) (fun _ _ _ h => h) (by rfl) ?_ ?_
  rotate_left
  · intro W hW; have hW0 := Ext.trans E1d.out hW; clear hW; go_simp <;> with_reducible rfl
  try simp only [Act.put, List.setIfInBounds_toArray, List.set_cons_zero, List.set_cons_succ]
  refine wpAnyH_done (by kernel_rfl) ?_ _
  try go_wp2_with fail
  refine ext_begin (by kernel_rfl) ?_
  have E1dd := Lib.hid (Ext.drewR E1d.out)
  refine ext_take (i := 0) (v := ?_) rfl (by kernel_rfl) (by kernel_rfl) (by kernel_rfl) (fun _ _ _ h => h) (by rfl) ?_ ?_
  rotate_left
  · intro W hW; have hW0 := Ext.trans E1dd.out hW; clear hW; go_simp <;> with_reducible rfl
  try simp only [Act.put, List.setIfInBounds_toArray, List.set_cons_zero, List.set_cons_succ]
  refine ext_take (i := 1) (v := ?_) rfl (by kernel_rfl) (by kernel_rfl) (by kernel_rfl) (fun _ _ _ h => h) (by rfl) ?_ ?_
  rotate_left
  · intro W hW; have hW0 := Ext.trans E1dd.out hW; clear hW; go_simp <;> with_reducible rfl
  try simp only [Act.put, List.setIfInBounds_toArray, List.set_cons_zero, List.set_cons_succ]
  refine ext_take (i := 2) (v := ?_) rfl (by kernel_rfl) (by kernel_rfl) (by kernel_rfl) (fun _ _ _ h => h) (by rfl) ?_ ?_
  rotate_left
  · intro W hW; have hW0 := Ext.trans E1dd.out hW; clear hW; go_simp <;> with_reducible rfl
  try simp only [Act.put, List.setIfInBounds_toArray, List.set_cons_zero, List.set_cons_succ]
  refine ext_take (i := 3) (v := ?_) rfl (by kernel_rfl) (by kernel_rfl) (by kernel_rfl) (fun _ _ _ h => h) (by rfl) ?_ ?_
  rotate_left
  · intro W hW; have hW0 := Ext.trans E1dd.out hW; clear hW; go_simp <;> with_reducible rfl
  try simp only [Act.put, List.setIfInBounds_toArray, List.set_cons_zero, List.set_cons_succ]
  refine ext_take (i := 4) (v := ?_) rfl (by kernel_rfl) (by kernel_rfl) (by kernel_rfl) (fun _ _ _ h => h) (by rfl) ?_ ?_
  rotate_left
  · intro W hW; have hW0 := Ext.trans E1dd.out hW; clear hW; go_simp <;> with_reducible rfl
  try simp only [Act.put, List.setIfInBounds_toArray, List.set_cons_zero, List.set_cons_succ]
  refine ext_take (i := 5) (v := ?_) rfl (by kernel_rfl) (by kernel_rfl) (by kernel_rfl) (fun _ _ _ h => h) (by rfl) ?_ ?_
  rotate_left
  · intro W hW; have hW0 := Ext.trans E1dd.out hW; clear hW; go_simp <;> with_reducible rfl
  try simp only [Act.put, List.setIfInBounds_toArray, List.set_cons_zero, List.set_cons_succ]
  refine ext_take (i := 6) (v := ?_) rfl (by kernel_rfl) (by kernel_rfl) (by kernel_rfl) (fun _ _ _ h => h) (by rfl) ?_ ?_
  rotate_left
  · intro W hW; have hW0 := Ext.trans E1dd.out hW; clear hW; go_simp <;> with_reducible rfl
  try simp only [Act.put, List.setIfInBounds_toArray, List.set_cons_zero, List.set_cons_succ]
  refine ext_take (i := 7) (v := ?_) rfl (by kernel_rfl) (by kernel_rfl) (by kernel_rfl) (fun _ _ _ h => h) (by rfl) ?_ ?_
  rotate_left
  · intro W hW; have hW0 := Ext.trans E1dd.out hW; clear hW; go_simp <;> with_reducible rfl
  try simp only [Act.put, List.setIfInBounds_toArray, List.set_cons_zero, List.set_cons_succ]
  refine ext_call (i := 8) rfl (by kernel_rfl) (by rfl) (fun K' hK => ?_)
  go_simp
  (go_at_call 36; (with_reducible refine (CW.out _).mono ?_); rintro e w2 ⟨rfl, hx⟩; refine hK _ _ hx ?_; clear hK)
  have Ew2 := Lib.hid (Ext.trans E1dd.out hx)
  clear hx
  try simp only [Act.put, List.setIfInBounds_toArray, List.set_cons_zero, List.set_cons_succ]
  refine ext_take (i := 9) (v := ?_) rfl (by kernel_rfl) (by kernel_rfl) (by kernel_rfl) (fun _ _ _ h => h) (by rfl) ?_ ?_
  rotate_left
  · intro W hW; have hW0 := Ext.trans Ew2.out hW; clear hW; go_simp <;> with_reducible rfl
  try simp only [Act.put, List.setIfInBounds_toArray, List.set_cons_zero, List.set_cons_succ]
  refine ext_take (i := 10) (v := ?_) rfl (by kernel_rfl) (by kernel_rfl) (by kernel_rfl) (fun _ _ _ h => h) (by rfl) ?_ ?_
  rotate_left
  · intro W hW; have hW0 := Ext.trans Ew2.out hW; clear hW; go_simp <;> with_reducible rfl
  try simp only [Act.put, List.setIfInBounds_toArray, List.set_cons_zero, List.set_cons_succ]
  refine wpAnyH_done (by kernel_rfl) ?_ _
  try go_wp2_with fail
  obtain ⟨Wa, hWa⟩ : ∃ Wa, Wa = w2 := ⟨_, rfl⟩
  rw [← hWa] at Ew2 ⊢
  clear hWa
  have HKQa := Lib.hid (KQ.out.stay Ew2.out)
  have KPa := Lib.hid (HKP.out.stay Ew2.out)
  have hgne : ¬ g = P := by have h1 := HGG.out; have h2 := HLT.out; omega
  have KP : Hid (Blk Wa.drew P 77 #[v, .int .i64 l0, .int .i64 l1, .int .i64 l2, .int .i64 l3, .pointer none, p1, p2, p3]) := KPa.out.drew
  have E0f : Hid (Frm (fun k => k = P) Wa Wa.drew) := (Frm.refl _ _).drew
  have EaX : Hid (Ext w Wa) := Ext.trans X0.out Ew2.out
  clear y0 y1 y5 z0 z1 z2 z3 z4 z5 E1d
  have z0 : ∀ V, Frm (fun k => k = P) Wa V → V.cell? ⟨g, 0, none⟩ = some (.int .i64 0) := fun V h => ((HKQa.out.frm h hgne)).cell 0
  have z1 : ∀ V, Frm (fun k => k = P) Wa V → V.cell? ⟨g, 1, none⟩ = some (.int .i64 s) := fun V h => ((HKQa.out.frm h hgne)).cell 1
  have z2 : ∀ V, Frm (fun k => k = P) Wa V → V.cell? ⟨g, 2, none⟩ = some (.int .i64 k) := fun V h => ((HKQa.out.frm h hgne)).cell 2
  have z3 : ∀ V, Frm (fun k => k = P) Wa V → V.cell? ⟨g, 3, none⟩ = some (.int .i64 i) := fun V h => ((HKQa.out.frm h hgne)).cell 3
  have z4 : ∀ V, Frm (fun k => k = P) Wa V → V.cell? ⟨g, 4, none⟩ = some (.int .i64 m) := fun V h => ((HKQa.out.frm h hgne)).cell 4
  have z5 : ∀ V, Frm (fun k => k = P) Wa V → V.cell? ⟨g, 5, none⟩ = some (.string d) := fun V h => ((HKQa.out.frm h hgne)).cell 5
  refine rz_begin (fun k => k = P) [] (by kernel_rfl) ?_
  refine rz_take [8, 9, 10, 11, 14, 15] (i := 0) (v := ?_) rfl (by kernel_rfl) (by kernel_rfl) (by kernel_rfl) (by kernel_rfl) (by kernel_rfl) (by kernel_rfl) (fun _ _ _ h => h) (by rfl) ?_ ?_
  rotate_left
  · intro W hW; have hW0 := Frm.tr E0f.out hW; clear hW; go_simp <;> with_reducible rfl
  try simp only [Act.put, List.setIfInBounds_toArray, List.set_cons_zero, List.set_cons_succ]
  refine rz_take [2, 10, 11, 14, 15] (i := 1) (v := ?_) rfl (by kernel_rfl) (by kernel_rfl) (by kernel_rfl) (by kernel_rfl) (by kernel_rfl) (by kernel_rfl) (fun _ _ _ h => h) (by rfl) ?_ ?_
  rotate_left
  · intro W hW; have hW0 := Frm.tr E0f.out hW; clear hW; go_simp <;> with_reducible rfl
  try simp only [Act.put, List.setIfInBounds_toArray, List.set_cons_zero, List.set_cons_succ]
  refine rz_take [10, 11, 14, 15] (i := 2) (v := ?_) rfl (by kernel_rfl) (by kernel_rfl) (by kernel_rfl) (by kernel_rfl) (by kernel_rfl) (by kernel_rfl) (fun _ _ _ h => h) (by rfl) ?_ ?_
  rotate_left
  · intro W hW; have hW0 := Frm.tr E0f.out hW; clear hW; go_simp <;> with_reducible rfl
  try simp only [Act.put, List.setIfInBounds_toArray, List.set_cons_zero, List.set_cons_succ]
  refine rz_take [12, 13, 14, 15] (i := 3) (v := ?_) rfl (by kernel_rfl) (by kernel_rfl) (by kernel_rfl) (by kernel_rfl) (by kernel_rfl) (by kernel_rfl) (fun _ _ _ h => h) (by rfl) ?_ ?_
  rotate_left
  · intro W hW; have hW0 := Frm.tr E0f.out hW; clear hW; go_simp <;> with_reducible rfl
  try simp only [Act.put, List.setIfInBounds_toArray, List.set_cons_zero, List.set_cons_succ]
  refine rz_take [5, 10, 11, 14, 15] (i := 4) (v := ?_) rfl (by kernel_rfl) (by kernel_rfl) (by kernel_rfl) (by kernel_rfl) (by kernel_rfl) (by kernel_rfl) (fun _ _ _ h => h) (by rfl) ?_ ?_
  rotate_left
  · intro W hW; have hW0 := Frm.tr E0f.out hW; clear hW; go_simp <;> with_reducible rfl
  try simp only [Act.put, List.setIfInBounds_toArray, List.set_cons_zero, List.set_cons_succ]
  refine rz_take [10, 11, 14, 15] (i := 5) (v := ?_) rfl (by kernel_rfl) (by kernel_rfl) (by kernel_rfl) (by kernel_rfl) (by kernel_rfl) (by kernel_rfl) (fun _ _ _ h => h) (by rfl) ?_ ?_
  rotate_left
  · intro W hW; have hW0 := Frm.tr E0f.out hW; clear hW; go_simp <;> with_reducible rfl
  try simp only [Act.put, List.setIfInBounds_toArray, List.set_cons_zero, List.set_cons_succ]
  refine rz_take [7, 10, 11, 14, 15] (i := 6) (v := ?_) rfl (by kernel_rfl) (by kernel_rfl) (by kernel_rfl) (by kernel_rfl) (by kernel_rfl) (by kernel_rfl) (fun _ _ _ h => h) (by rfl) ?_ ?_
  rotate_left
  · intro W hW; have hW0 := Frm.tr E0f.out hW; clear hW; go_simp <;> with_reducible rfl
  try simp only [Act.put, List.setIfInBounds_toArray, List.set_cons_zero, List.set_cons_succ]
  refine rz_take [10, 11, 14, 15] (i := 7) (v := ?_) rfl (by kernel_rfl) (by kernel_rfl) (by kernel_rfl) (by kernel_rfl) (by kernel_rfl) (by kernel_rfl) (fun _ _ _ h => h) (by rfl) ?_ ?_
  rotate_left
  · intro W hW; have hW0 := Frm.tr E0f.out hW; clear hW; go_simp <;> with_reducible rfl
  try simp only [Act.put, List.setIfInBounds_toArray, List.set_cons_zero, List.set_cons_succ]
  refine rz_take [9, 10, 11, 14, 15] (i := 8) (v := ?_) rfl (by kernel_rfl) (by kernel_rfl) (by kernel_rfl) (by kernel_rfl) (by kernel_rfl) (by kernel_rfl) (fun _ _ _ h => h) (by rfl) ?_ ?_
  rotate_left
  · intro W hW; have hW0 := Frm.tr E0f.out hW; clear hW; go_simp <;> with_reducible rfl
  try simp only [Act.put, List.setIfInBounds_toArray, List.set_cons_zero, List.set_cons_succ]
  refine rz_take [10, 11, 14, 15] (i := 9) (v := ?_) rfl (by kernel_rfl) (by kernel_rfl) (by kernel_rfl) (by kernel_rfl) (by kernel_rfl) (by kernel_rfl) (fun _ _ _ h => h) (by rfl) ?_ ?_
  rotate_left
  · intro W hW; have hW0 := Frm.tr E0f.out hW; clear hW; go_simp <;> with_reducible rfl
  try simp only [Act.put, List.setIfInBounds_toArray, List.set_cons_zero, List.set_cons_succ]
  refine rz_take [11, 14, 15] (i := 10) (v := ?_) rfl (by kernel_rfl) (by kernel_rfl) (by kernel_rfl) (by kernel_rfl) (by kernel_rfl) (by kernel_rfl) (fun _ _ _ h => h) (by rfl) ?_ ?_
  rotate_left
  · intro W hW; have hW0 := Frm.tr E0f.out hW; clear hW; go_simp <;> with_reducible rfl
  try simp only [Act.put, List.setIfInBounds_toArray, List.set_cons_zero, List.set_cons_succ]
  refine rz_take [13, 14, 15] (i := 12) (v := ?_) rfl (by kernel_rfl) (by kernel_rfl) (by kernel_rfl) (by kernel_rfl) (by kernel_rfl) (by kernel_rfl) (fun _ _ _ h => h) (by rfl) ?_ ?_
  rotate_left
  · intro W hW; have hW0 := Frm.tr E0f.out hW; clear hW; go_simp <;> with_reducible rfl
  try simp only [Act.put, List.setIfInBounds_toArray, List.set_cons_zero, List.set_cons_succ]
  refine rz_take [14, 15] (i := 13) (v := ?_) rfl (by kernel_rfl) (by kernel_rfl) (by kernel_rfl) (by kernel_rfl) (by kernel_rfl) (by kernel_rfl) (fun _ _ _ h => h) (by rfl) ?_ ?_
  rotate_left
  · intro W hW; have hW0 := Frm.tr E0f.out hW; clear hW; go_simp <;> with_reducible rfl
  try simp only [Act.put, List.setIfInBounds_toArray, List.set_cons_zero, List.set_cons_succ]
  refine rz_call (i := 11) rfl (by kernel_rfl) (by rfl) (fun K hK => ?_)
  have q1 := KP.out.frozen 5
  have r1 := KP.out.cell 5
  simp at r1
  go_simp
  refine hK _ _ (Frm.of_set _ _ _ rfl) ?_; clear hK K q1 r1
  obtain ⟨W1, hW1⟩ : ∃ W1, W1 = (Wa.setCell ⟨P, 5, none⟩ (.pointer (some ⟨g, 0, none⟩))).drew := ⟨_, rfl⟩
  have KP1 : Hid (Blk W1 P 77 #[v, .int .i64 l0, .int .i64 l1, .int .i64 l2, .int .i64 l3, .pointer (some ⟨g, 0, none⟩), p1, p2, p3]) := by (show Blk _ _ _ _); rw [hW1]; exact KP.out.set 5 _
  have F1 : Hid (Frm (fun k => k = P) Wa.drew W1) := by (show Frm _ _ _); rw [hW1]; exact Frm.of_set (s := fun k => k = P) Wa.drew ⟨P, 5, none⟩ _ rfl
  have E8 : Hid (Frm (fun k => k = P) Wa W1) := Frm.tr E0f.out F1.out
  try rw [← hW1]
  clear hW1
  try simp only [Act.put, List.setIfInBounds_toArray, List.set_cons_zero, List.set_cons_succ]
  refine rz_take [15] (i := 14) (v := ?_) rfl (by kernel_rfl) (by kernel_rfl) (by kernel_rfl) (by kernel_rfl) (by kernel_rfl) (by kernel_rfl) (fun _ _ _ h => h) (by rfl) ?_ ?_
  rotate_left
  · intro W hW; have hW0 := Frm.tr E8.out hW; clear hW; go_simp <;> with_reducible rfl
  try simp only [Act.put, List.setIfInBounds_toArray, List.set_cons_zero, List.set_cons_succ]
  refine rz_call (i := 15) rfl (by kernel_rfl) (by rfl) (fun K hK => ?_)
  have q1 := KP1.out.frozen 1
  have r1 := KP1.out.cell 1
  simp at r1
  go_simp
  refine hK _ _ (Frm.of_set _ _ _ rfl) ?_; clear hK K q1 r1
  obtain ⟨W2, hW2⟩ : ∃ W2, W2 = W1.setCell ⟨P, 1, none⟩ (.int .i64 s) := ⟨_, rfl⟩
  have KP2 : Hid (Blk W2 P 77 #[v, .int .i64 s, .int .i64 l1, .int .i64 l2, .int .i64 l3, .pointer (some ⟨g, 0, none⟩), p1, p2, p3]) := by (show Blk _ _ _ _); rw [hW2]; exact KP1.out.set 1 _
  have F2 : Hid (Frm (fun k => k = P) Wa.drew W2) := by (show Frm _ _ _); rw [hW2]; exact Frm.tr F1.out (Frm.of_set _ _ _ rfl)
  have E9 : Hid (Frm (fun k => k = P) Wa W2) := Frm.tr E0f.out (Frm.tr (Frm.refl _ _) F2.out)
  try rw [← hW2]
  clear hW2
  try simp only [Act.put, List.setIfInBounds_toArray, List.set_cons_zero, List.set_cons_succ]
  refine rz_done (by kernel_rfl) ?_ _
  try go_wp2_with fail
  have EP2 : Hid (Frm (fun k => k = P) w W2) := Frm.tr (Frm.of_below EaX.out _) E9.out
  have HKQ2 := Lib.hid (HKQa.out.frm E9.out hgne)
  have HOWN2 := Lib.hid (own_frmN HOWN.out EP2.out (fun k hk e => HNP.out (by rw [← e, ← hk]; exact HG.out)))
  clear z0 z1 z2 z3 z4 z5
  have hgG : ¬ some g = G := fun e => by
    obtain ⟨cs, hc⟩ := own_blk HOWN2.out (HG.out.trans e.symm)
    exact Blk.apart HKQ2.out hc (by decide) rfl
  have z0 : ∀ V, Frm (fun k => some k = G) W2 V → V.cell? ⟨g, 0, none⟩ = some (.int .i64 0) := fun V h => ((HKQ2.out.frm h hgG)).cell 0
  have z1 : ∀ V, Frm (fun k => some k = G) W2 V → V.cell? ⟨g, 1, none⟩ = some (.int .i64 s) := fun V h => ((HKQ2.out.frm h hgG)).cell 1
  have z2 : ∀ V, Frm (fun k => some k = G) W2 V → V.cell? ⟨g, 2, none⟩ = some (.int .i64 k) := fun V h => ((HKQ2.out.frm h hgG)).cell 2
  have z3 : ∀ V, Frm (fun k => some k = G) W2 V → V.cell? ⟨g, 3, none⟩ = some (.int .i64 i) := fun V h => ((HKQ2.out.frm h hgG)).cell 3
  have z4 : ∀ V, Frm (fun k => some k = G) W2 V → V.cell? ⟨g, 4, none⟩ = some (.int .i64 m) := fun V h => ((HKQ2.out.frm h hgG)).cell 4
  have z5 : ∀ V, Frm (fun k => some k = G) W2 V → V.cell? ⟨g, 5, none⟩ = some (.string d) := fun V h => ((HKQ2.out.frm h hgG)).cell 5
  have y0 : ∀ V, Frm (fun k => some k = G) W2 V → V.cell? ⟨P, 0, none⟩ = some (v) := fun V h => (KP2.out.frm h HNP.out).cell 0
  have Xe : Hid (Ext W2 W2.drew) := (Ext.refl _).drewR
  have E0g : Hid (Frm (fun k => some k = G) W2 W2.drew) := Frm.of_below Xe.out _
  refine rz_begin (fun k => some k = G) [15] (by kernel_rfl) ?_
  refine rz_take [13, 14, 15] (i := 0) (v := ?_) rfl (by kernel_rfl) (by kernel_rfl) (by kernel_rfl) (by kernel_rfl) (by kernel_rfl) (by kernel_rfl) (fun _ _ _ h => h) (by rfl) ?_ ?_
  rotate_left
  · intro W hW; have hW0 := Frm.tr E0g.out hW; clear hW; go_simp <;> with_reducible rfl
  try simp only [Act.put, List.setIfInBounds_toArray, List.set_cons_zero, List.set_cons_succ]
  refine rz_take [2, 3, 4, 12, 13, 14, 15] (i := 1) (v := ?_) rfl (by kernel_rfl) (by kernel_rfl) (by kernel_rfl) (by kernel_rfl) (by kernel_rfl) (by kernel_rfl) (fun _ _ _ h => h) (by rfl) ?_ ?_
  rotate_left
  · intro W hW; have hW0 := Frm.tr E0g.out hW; clear hW; go_simp <;> with_reducible rfl
  try simp only [Act.put, List.setIfInBounds_toArray, List.set_cons_zero, List.set_cons_succ]
  refine rz_take [3, 4, 12, 13, 14, 15] (i := 2) (v := ?_) rfl (by kernel_rfl) (by kernel_rfl) (by kernel_rfl) (by kernel_rfl) (by kernel_rfl) (by kernel_rfl) (fun _ _ _ h => h) (by rfl) ?_ ?_
  rotate_left
  · intro W hW; have hW0 := Frm.tr E0g.out hW; clear hW; go_simp <;> with_reducible rfl
  try simp only [Act.put, List.setIfInBounds_toArray, List.set_cons_zero, List.set_cons_succ]
  refine rz_take [4, 12, 13, 14, 15] (i := 3) (v := ?_) rfl (by kernel_rfl) (by kernel_rfl) (by kernel_rfl) (by kernel_rfl) (by kernel_rfl) (by kernel_rfl) (fun _ _ _ h => h) (by rfl) ?_ ?_
  rotate_left
  · intro W hW; have hW0 := Frm.tr E0g.out hW; clear hW; go_simp <;> with_reducible rfl
  try simp only [Act.put, List.setIfInBounds_toArray, List.set_cons_zero, List.set_cons_succ]
  refine rz_take [12, 13, 14, 15] (i := 4) (v := ?_) rfl (by kernel_rfl) (by kernel_rfl) (by kernel_rfl) (by kernel_rfl) (by kernel_rfl) (by kernel_rfl) (fun _ _ _ h => h) (by rfl) ?_ ?_
  rotate_left
  · intro W hW; have hW0 := Frm.tr E0g.out hW; clear hW; go_simp <;> with_reducible rfl
  try simp only [Act.put, List.setIfInBounds_toArray, List.set_cons_zero, List.set_cons_succ]
  refine rz_take [6, 10, 11, 12, 13, 14, 15] (i := 5) (v := ?_) rfl (by kernel_rfl) (by kernel_rfl) (by kernel_rfl) (by kernel_rfl) (by kernel_rfl) (by kernel_rfl) (fun _ _ _ h => h) (by rfl) ?_ ?_
  rotate_left
  · intro W hW; have hW0 := Frm.tr E0g.out hW; clear hW; go_simp <;> with_reducible rfl
  try simp only [Act.put, List.setIfInBounds_toArray, List.set_cons_zero, List.set_cons_succ]
  refine rz_take [10, 11, 12, 13, 14, 15] (i := 6) (v := ?_) rfl (by kernel_rfl) (by kernel_rfl) (by kernel_rfl) (by kernel_rfl) (by kernel_rfl) (by kernel_rfl) (fun _ _ _ h => h) (by rfl) ?_ ?_
  rotate_left
  · intro W hW; have hW0 := Frm.tr E0g.out hW; clear hW; go_simp <;> with_reducible rfl
  try simp only [Act.put, List.setIfInBounds_toArray, List.set_cons_zero, List.set_cons_succ]
  refine rz_take [8, 10, 11, 12, 13, 14, 15] (i := 7) (v := ?_) rfl (by kernel_rfl) (by kernel_rfl) (by kernel_rfl) (by kernel_rfl) (by kernel_rfl) (by kernel_rfl) (fun _ _ _ h => h) (by rfl) ?_ ?_
  rotate_left
  · intro W hW; have hW0 := Frm.tr E0g.out hW; clear hW; go_simp <;> with_reducible rfl
  try simp only [Act.put, List.setIfInBounds_toArray, List.set_cons_zero, List.set_cons_succ]
  refine rz_take [10, 11, 12, 13, 14, 15] (i := 8) (v := ?_) rfl (by kernel_rfl) (by kernel_rfl) (by kernel_rfl) (by kernel_rfl) (by kernel_rfl) (by kernel_rfl) (fun _ _ _ h => h) (by rfl) ?_ ?_
  rotate_left
  · intro W hW; have hW0 := Frm.tr E0g.out hW; clear hW; go_simp <;> with_reducible rfl
  try simp only [Act.put, List.setIfInBounds_toArray, List.set_cons_zero, List.set_cons_succ]
  refine rz_take [10, 11, 12, 13, 14, 15] (i := 9) (v := ?_) rfl (by kernel_rfl) (by kernel_rfl) (by kernel_rfl) (by kernel_rfl) (by kernel_rfl) (by kernel_rfl) (fun _ _ _ h => h) (by rfl) ?_ ?_
  rotate_left
  · intro W hW; have hW0 := Frm.tr E0g.out hW; clear hW; go_simp <;> with_reducible rfl
  try simp only [Act.put, List.setIfInBounds_toArray, List.set_cons_zero, List.set_cons_succ]
  refine rz_take [11, 12, 13, 14, 15] (i := 10) (v := ?_) rfl (by kernel_rfl) (by kernel_rfl) (by kernel_rfl) (by kernel_rfl) (by kernel_rfl) (by kernel_rfl) (fun _ _ _ h => h) (by rfl) ?_ ?_
  rotate_left
  · intro W hW; have hW0 := Frm.tr E0g.out hW; clear hW; go_simp <;> with_reducible rfl
  try simp only [Act.put, List.setIfInBounds_toArray, List.set_cons_zero, List.set_cons_succ]
  refine rz_call (i := 11) rfl (by kernel_rfl) (by rfl) (fun K hK => ?_)
  go_simp
  refine hK _ _ (Frm.of_alloc _ _ _) ?_; clear hK K
  obtain ⟨W3, hW3⟩ : ∃ W3, W3 = (W2.alloc (.cells #[.int .i64 0, .int .i64 s, .bool false, .int .i64 0, .int .i64 s, .int .i64 k, .int .i64 i, .int .i64 m, .string d, .int .i64 0, .int .i64 0, .string ⟨#[]⟩, .slice none 0 0, .int .i64 0] 50)).drew := ⟨_, rfl⟩
  have KR3 : Hid (Blk W3 W2.drew.heap.size 50 #[.int .i64 0, .int .i64 s, .bool false, .int .i64 0, .int .i64 s, .int .i64 k, .int .i64 i, .int .i64 m, .string d, .int .i64 0, .int .i64 0, .string ⟨#[]⟩, .slice none 0 0, .int .i64 0]) := by (show Blk _ _ _ _); rw [hW3]; exact Blk.new W2.drew _ _
  have X3 : Hid (Ext W2.drew W3) := by (show Ext _ _); rw [hW3]; exact Ext.alloc W2.drew _
  have E3 : Hid (Frm (fun k => some k = G) W2 W3) := Frm.tr E0g.out (Frm.of_below X3.out _)
  try rw [← hW3]
  clear hW3
  try simp only [Act.put, List.setIfInBounds_toArray, List.set_cons_zero, List.set_cons_succ]
  refine rz_call (i := 12) rfl (by kernel_rfl) (by rfl) (fun K hK => ?_)
  refine wp_append_wide (.tmp 51) (.tmp 58) 26 rfl base 50 _ 14 144 Try.underlying26 info_act rfl (by decide) (by decide) v L.length (flatA L) rfl (own_frmN HOWN2.out (Frm.of_below (Ext.trans Xe.out X3.out) (fun _ => False)) (fun _ _ h => h)) W2.drew.heap.size [.int .i64 0, .int .i64 s, .bool false, .int .i64 0, .int .i64 s, .int .i64 k, .int .i64 i, .int .i64 m, .string d, .int .i64 0, .int .i64 0, .string ⟨#[]⟩, .slice none 0 0, .int .i64 0] rfl rfl KR3.out (by intro y hy; simp at hy; rcases hy with rfl | rfl | rfl | rfl | rfl | rfl | rfl | rfl | rfl | rfl | rfl | rfl | rfl | rfl <;> rfl) HLN.out (Nat.le_trans HBS.out (Nat.le_trans (Frm.tr EP2.out (Frm.of_below Xe.out _)).size X3.out.size)) ?_
  intro v2 W4 oo gg bb
  obtain ⟨A2, cap2, hv2⟩ := own_shape oo
  subst hv2
  refine hK _ _ (Frm.of_grown gg (fun k hk => hk.trans HG.out)) ?_; clear hK K
  have O4 := Lib.hid oo
  have G4 := Lib.hid gg
  have BB4 := Lib.hid bb
  have E4 : Hid (Frm (fun k => some k = G) W2 W4) := Frm.tr E3.out (Frm.of_grown gg (fun k hk => hk.trans HG.out))
  clear oo gg bb
  have KP4 : Hid (Blk W4 P 77 #[v, .int .i64 s, .int .i64 l1, .int .i64 l2, .int .i64 l3, .pointer (some ⟨g, 0, none⟩), p1, p2, p3]) := KP2.out.frm E4.out (fun e => HNP.out e)
  try simp only [Act.put, List.setIfInBounds_toArray, List.set_cons_zero, List.set_cons_succ]
  refine rz_take [14, 15] (i := 13) (v := ?_) rfl (by kernel_rfl) (by kernel_rfl) (by kernel_rfl) (by kernel_rfl) (by kernel_rfl) (by kernel_rfl) (fun _ _ _ h => h) (by rfl) ?_ ?_
  rotate_left
  · intro W hW; have hW0 := Frm.tr E4.out hW; clear hW; go_simp <;> with_reducible rfl
  try simp only [Act.put, List.setIfInBounds_toArray, List.set_cons_zero, List.set_cons_succ]
  refine rz_take [15] (i := 14) (v := ?_) rfl (by kernel_rfl) (by kernel_rfl) (by kernel_rfl) (by kernel_rfl) (by kernel_rfl) (by kernel_rfl) (fun _ _ _ h => h) (by rfl) ?_ ?_
  rotate_left
  · intro W hW; have hW0 := Frm.tr E4.out hW; clear hW; go_simp <;> with_reducible rfl
  try simp only [Act.put, List.setIfInBounds_toArray, List.set_cons_zero, List.set_cons_succ]
  refine rz_last (i := 15) rfl (by kernel_rfl) (by rfl) (by rfl) (fun K hK => ?_)
  have q1 := KP4.out.frozen 0
  have r1 := KP4.out.cell 0
  simp at r1
  go_simp
  refine hK _ _ ?_; clear hK K q1 r1
  obtain ⟨W5, hW5⟩ : ∃ W5, W5 = W4.setCell ⟨P, 0, none⟩ (.slice A2 (L.length + 1) cap2) := ⟨_, rfl⟩
  have KP5 : Hid (Blk W5 P 77 #[.slice A2 (L.length + 1) cap2, .int .i64 s, .int .i64 l1, .int .i64 l2, .int .i64 l3, .pointer (some ⟨g, 0, none⟩), p1, p2, p3]) := by (show Blk _ _ _ _); rw [hW5]; exact KP4.out.set 0 _
  have F5 : Hid (Frm (fun k => k = P) W4 W5) := by (show Frm _ _ _); rw [hW5]; exact Frm.of_set _ _ _ rfl
  try rw [← hW5]
  clear hW5
  try simp only [Act.put, List.setIfInBounds_toArray, List.set_cons_zero, List.set_cons_succ]
  refine rz_done (by kernel_rfl) ?_ _
  clear z0 z1 z2 z3 z4 z5 y0
  go_wp2_with fail
  try go_ret
  have hqq : ∀ k cs, Blk w k 29 cs ∨ Blk w k 3 cs → ¬ k = P := fun k cs h e => by
    subst e
    rcases h with h | h
    · exact Blk.apart HKPw.out h (by decide) rfl
    · exact Blk.apart HKPw.out h (by decide) rfl
  have hqg : ∀ k cs, Blk w k 29 cs ∨ Blk w k 3 cs → ¬ some k = G := fun k cs h e => by
    obtain ⟨cs', hc⟩ := own_blk HOWNw.out (HG.out.trans e.symm)
    rcases h with h | h
    · exact Blk.apart hc h (by decide) rfl
    · exact Blk.apart hc h (by decide) rfl
  have FA : Frm (Psel P G) w W5 := Frm.tr (EP2.out.mono (fun k hk => Or.inl hk)) (Frm.tr (E4.out.mono (fun k hk => Or.inr hk)) (F5.out.mono (fun k hk => Or.inl hk)))
  have hkeep : ∀ k t cs, t = 29 ∨ t = 3 → Blk w k t cs → Blk W5 k t cs := fun k t cs ht h => h.frm FA (fun hh => by
    rcases ht with rfl | rfl
    · rcases hh with hh | hh
      · exact hqq k cs (.inl h) hh
      · exact hqg k cs (.inl h) hh
    · rcases hh with hh | hh
      · exact hqq k cs (.inr h) hh
      · exact hqg k cs (.inr h) hh)
  have hq5 : ∀ g cs, Blk w g 29 cs → Blk W5 g 29 cs := fun k cs h => hkeep k _ cs (.inl rfl) h
  have hg5 : Blk W5 g 29 #[.int .i64 0, .int .i64 s, .int .i64 k, .int .i64 i, .int .i64 m, .string d] := ((HKQ2.out.frm E4.out hgG).frm F5.out hgne)
  obtain ⟨h40, h41, h42, h43⟩ := HWT.out
  have O5 : W5.ownsRow base 50 14 (.slice A2 (L.length + 1) cap2) (L ++ [At.mk (Ac.mk 0 s false (Rqv.mk 0 s k i m d) Rpv.zero 0) none 0]).length (flatA (L ++ [At.mk (Ac.mk 0 s false (Rqv.mk 0 s k i m d) Rpv.zero 0) none 0])) := by
    rw [flatA_append, List.length_append]
    exact own_frmN O4.out F5.out (fun k hk e => own_blkne O4.out KP4.out (by decide) k hk e)
  refine hD.out _ _ ⟨rfl, _, ⟨HBP.out, .slice A2 (L.length + 1) cap2, s, l1, l2, l3, .pointer (some ⟨g, 0, none⟩), p1, p2, p3, some ⟨0, s, k, i, m, d⟩, o1, o2, o3, L ++ [At.mk (Ac.mk 0 s false (Rqv.mk 0 s k i m d) Rpv.zero 0) none 0], KP5.out, ?_, ?_, ⟨⟨g, rfl, hg5⟩, h41.of hq5, h42.of hq5, h43.of hq5⟩, O5, rfl, ?_, ?_⟩, FA, ?_⟩
  · show st.last.set 0 s = _
    rw [HLS.out]; rfl
  · show st.wait.set 0 (some ⟨0, s, k, i, m, d⟩) = _
    rw [HWS.out]; rfl
  · rw [List.map_append, HL.out]; rfl
  · intro t ht
    rw [List.mem_append, List.mem_singleton] at ht
    rcases ht with ht | rfl
    · exact (HIN.out t ht).of (fun k cs h => hkeep k _ cs (.inr rfl) h)
    · exact In.nil _
  · rcases BB4.out with h5 | h5
    · exact .inl (h5.trans HG.out)
    · exact .inr ⟨_, h5, Nat.le_trans EaX.out.size (Nat.le_trans (Frm.tr E0f.out (Frm.refl _ _)).size (Nat.le_trans F2.out.size (Nat.le_trans Xe.out.size X3.out.size)))⟩

set_option maxRecDepth 4000 in
set_option maxHeartbeats 8000000 in
theorem ask_wait1 (base P : Nat) (G : Option Nat) (st : Ps) (s k i m : Int) (d : ByteArray) (w : World) (H : PAt w base P G st) (hd : d.size ≤ maxLen) (hm : mayReqB 1 s k i m d.size = true) (hs : ∃ x, st.w 1 = some x) :
    Calls Try.prog 11 #[.pointer (some ⟨P, 0, none⟩), .agg #[.int .i64 1, .int .i64 s, .int .i64 k, .int .i64 i, .int .i64 m, .string d]] w fun e w' => e = .returned (.int .i64 4) ∧ Ext w w' := by
  refine hide_post fun D hD => ?_
  obtain ⟨hbP, v, l0, l1, l2, l3, p0, p1, p2, p3, o0, o1, o2, o3, L, kP, hl, hw, hwt, hown, hG, hL, hin⟩ := H
  obtain ⟨w0, hw0⟩ : ∃ w0, w0 = w.alloc (.cells #[.int .i64 1, .int .i64 s, .int .i64 k, .int .i64 i, .int .i64 m, .string d] 29) := ⟨_, rfl⟩
  have hb0 : Ext w w0 := by rw [hw0]; exact Ext.alloc _ _
  have KQ : Hid (Blk w0 w.heap.size 29 #[.int .i64 1, .int .i64 s, .int .i64 k, .int .i64 i, .int .i64 m, .string d]) := by show Blk _ _ _ _; rw [hw0]; exact Blk.new _ _ _
  have CM : Hid (∀ V, Calls Try.prog 35 #[.agg #[.int .i64 1, .int .i64 s, .int .i64 k, .int .i64 i, .int .i64 m, .string d]] V fun e w' => e = .returned (.bool true) ∧ Ext V w') := fun V => by rw [← hm]; exact mayReq_any 1 s k i m d V hd
  have X0 : Hid (Ext w w0) := hb0
  have HW := Lib.hid hw0
  obtain ⟨x, hx⟩ := hs
  have ho : o1 = some x := by unfold Ps.w at hx; rw [hw] at hx; exact hx
  subst ho
  obtain ⟨gq, rfl, hgq⟩ := hwt.2.1
  have y0 : ∀ V, Ext w0 V → V.cell? ⟨P, 0, none⟩ = some (v) := fun V h => (((kP.stay hb0).stay h)).cell 0
  have y2 : ∀ V, Ext w0 V → V.cell? ⟨P, 2, none⟩ = some (.int .i64 l1) := fun V h => (((kP.stay hb0).stay h)).cell 2
  have y6 : ∀ V, Ext w0 V → V.cell? ⟨P, 6, none⟩ = some (.pointer (some ⟨gq, 0, none⟩)) := fun V h => (((kP.stay hb0).stay h)).cell 6
  have z0 : ∀ V, Ext w0 V → V.cell? ⟨w.heap.size, 0, none⟩ = some (.int .i64 1) := fun V h => ((KQ.out.stay h)).cell 0
  have z1 : ∀ V, Ext w0 V → V.cell? ⟨w.heap.size, 1, none⟩ = some (.int .i64 s) := fun V h => ((KQ.out.stay h)).cell 1
  have z2 : ∀ V, Ext w0 V → V.cell? ⟨w.heap.size, 2, none⟩ = some (.int .i64 k) := fun V h => ((KQ.out.stay h)).cell 2
  have z3 : ∀ V, Ext w0 V → V.cell? ⟨w.heap.size, 3, none⟩ = some (.int .i64 i) := fun V h => ((KQ.out.stay h)).cell 3
  have z4 : ∀ V, Ext w0 V → V.cell? ⟨w.heap.size, 4, none⟩ = some (.int .i64 m) := fun V h => ((KQ.out.stay h)).cell 4
  have z5 : ∀ V, Ext w0 V → V.cell? ⟨w.heap.size, 5, none⟩ = some (.string d) := fun V h => ((KQ.out.stay h)).cell 5
  clear hb0 hw0 kP hl hw hwt hown hG hL hin hm hd hx hgq
  go_enter Try.func11, Try.ntmps11
  go_wp2_with (go_at_call 35; rw [← HW.out]; (with_reducible refine (CM.out _).mono ?_); rintro e w1 ⟨rfl, hx⟩; have E1 : Hid (Ext w0 w1) := hx; clear hx)
  refine ext_begin (by kernel_rfl) ?_
  have E1d := Lib.hid (Ext.drewR E1.out)
  refine ext_take (i := 0) (v := ?_) rfl (by kernel_rfl) (by kernel_rfl) (by kernel_rfl) (fun _ _ _ h => h) (by rfl) ?_ ?_
  rotate_left
  · intro W hW; have hW0 := Ext.trans E1d.out hW; clear hW; go_simp <;> with_reducible rfl
  try simp only [Act.put, List.setIfInBounds_toArray, List.set_cons_zero, List.set_cons_succ]
  refine ext_take (i := 1) (v := ?_) rfl (by kernel_rfl) (by kernel_rfl) (by kernel_rfl) (fun _ _ _ h => h) (by rfl) ?_ ?_
  rotate_left
  · intro W hW; have hW0 := Ext.trans E1d.out hW; clear hW; go_simp <;> with_reducible rfl
  try simp only [Act.put, List.setIfInBounds_toArray, List.set_cons_zero, List.set_cons_succ]
  refine ext_take (i := 2) (v := ?_) rfl (by kernel_rfl) (by kernel_rfl) (by kernel_rfl) (fun _ _ _ h => h) (by rfl) ?_ ?_
  rotate_left
  · intro W hW; have hW0 := Ext.trans E1d.out hW; clear hW; go_simp <;> with_reducible rfl
  try simp only [Act.put, List.setIfInBounds_toArray, List.set_cons_zero, List.set_cons_succ]
  refine ext_take (i := 3) (v := ?_) rfl (by kernel_rfl) (by kernel_rfl) (by kernel_rfl) (fun _ _ _ h => h) (by rfl) ?_ ?_
  rotate_left
  · intro W hW; have hW0 := Ext.trans E1d.out hW; clear hW; go_simp <;> with_reducible rfl
  try simp only [Act.put, List.setIfInBounds_toArray, List.set_cons_zero, List.set_cons_succ]
  refine ext_take (i := 4) (v := ?_) rfl (by kernel_rfl) (by kernel_rfl) (by kernel_rfl) (fun _ _ _ h => h) (by rfl) ?_ ?_
  rotate_left
  · intro W hW; have hW0 := Ext.trans E1d.out hW; clear hW; go_simp <;> with_reducible rfl
  try simp only [Act.put, List.setIfInBounds_toArray, List.set_cons_zero, List.set_cons_succ]
  refine ext_take (i := 5) (v := ?_) rfl (by kernel_rfl) (by kernel_rfl) (by kernel_rfl) (fun _ _ _ h => h) (by rfl) ?_ ?_
  rotate_left
  · intro W hW; have hW0 := Ext.trans E1d.out hW; clear hW; go_simp <;> with_reducible rfl
  try simp only [Act.put, List.setIfInBounds_toArray, List.set_cons_zero, List.set_cons_succ]
  refine ext_take (i := 6) (v := ?_) rfl (by kernel_rfl) (by kernel_rfl) (by kernel_rfl) (fun _ _ _ h => h) (by rfl) ?_ ?_
  rotate_left
  · intro W hW; have hW0 := Ext.trans E1d.out hW; clear hW; go_simp <;> with_reducible rfl
  try simp only [Act.put, List.setIfInBounds_toArray, List.set_cons_zero, List.set_cons_succ]
  refine ext_take (i := 7) (v := ?_) rfl (by kernel_rfl) (by kernel_rfl) (by kernel_rfl) (fun _ _ _ h => h) (by rfl) ?_ ?_
  rotate_left
  · intro W hW; have hW0 := Ext.trans E1d.out hW; clear hW; go_simp <;> with_reducible rfl
  try simp only [Act.put, List.setIfInBounds_toArray, List.set_cons_zero, List.set_cons_succ]
  refine ext_take (i := 8) (v := ?_) rfl (by kernel_rfl) (by kernel_rfl) (by kernel_rfl) (fun _ _ _ h => h) (by rfl) ?_ ?_
  rotate_left
  · intro W hW; have hW0 := Ext.trans E1d.out hW; clear hW; go_simp <;> with_reducible rfl
  try simp only [Act.put, List.setIfInBounds_toArray, List.set_cons_zero, List.set_cons_succ]
  refine wpAnyH_done (by kernel_rfl) ?_ _
  have EX := Lib.hid E1d.out
  clear E1d
  try go_wp2_with fail
  try go_ret
  exact hD.out _ _ ⟨rfl, Ext.trans X0.out EX.out⟩

set_option maxRecDepth 4000 in
set_option maxHeartbeats 8000000 in
theorem ask_old1 (base P : Nat) (G : Option Nat) (st : Ps) (s k i m : Int) (d : ByteArray) (w : World) (H : PAt w base P G st) (hd : d.size ≤ maxLen) (hm : mayReqB 1 s k i m d.size = true) (hs : st.w 1 = none) (ht : s ≤ st.la 1) :
    Calls Try.prog 11 #[.pointer (some ⟨P, 0, none⟩), .agg #[.int .i64 1, .int .i64 s, .int .i64 k, .int .i64 i, .int .i64 m, .string d]] w fun e w' => e = .returned (.int .i64 9) ∧ Ext w w' := by
  refine hide_post fun D hD => ?_
  obtain ⟨hbP, v, l0, l1, l2, l3, p0, p1, p2, p3, o0, o1, o2, o3, L, kP, hl, hw, hwt, hown, hG, hL, hin⟩ := H
  obtain ⟨w0, hw0⟩ : ∃ w0, w0 = w.alloc (.cells #[.int .i64 1, .int .i64 s, .int .i64 k, .int .i64 i, .int .i64 m, .string d] 29) := ⟨_, rfl⟩
  have hb0 : Ext w w0 := by rw [hw0]; exact Ext.alloc _ _
  have KQ : Hid (Blk w0 w.heap.size 29 #[.int .i64 1, .int .i64 s, .int .i64 k, .int .i64 i, .int .i64 m, .string d]) := by show Blk _ _ _ _; rw [hw0]; exact Blk.new _ _ _
  have CM : Hid (∀ V, Calls Try.prog 35 #[.agg #[.int .i64 1, .int .i64 s, .int .i64 k, .int .i64 i, .int .i64 m, .string d]] V fun e w' => e = .returned (.bool true) ∧ Ext V w') := fun V => by rw [← hm]; exact mayReq_any 1 s k i m d V hd
  have X0 : Hid (Ext w w0) := hb0
  have HW := Lib.hid hw0
  have ho : o1 = none := by unfold Ps.w at hs; rw [hw] at hs; exact hs
  have hlc : l1 = st.la 1 := by unfold Ps.la; rw [hl]; rfl
  obtain rfl : p1 = .pointer none := by have h5 := hwt.2.1; rw [ho] at h5; exact h5
  rw [← hlc] at ht
  have CW : Hid (∀ V, Calls Try.prog 36 #[.agg #[.int .i64 1, .int .i64 s, .int .i64 k, .int .i64 i, .int .i64 m, .string d], .int .i64 l1] V fun e w' => e = .returned (.bool false) ∧ Ext V w') := fun V => by
    have h5 := newer_any 1 s k i m d l1 V hd
    rw [hm, Bool.true_and, decide_eq_false (by omega)] at h5
    exact h5
  have y0 : ∀ V, Ext w0 V → V.cell? ⟨P, 0, none⟩ = some (v) := fun V h => (((kP.stay hb0).stay h)).cell 0
  have y2 : ∀ V, Ext w0 V → V.cell? ⟨P, 2, none⟩ = some (.int .i64 l1) := fun V h => (((kP.stay hb0).stay h)).cell 2
  have y6 : ∀ V, Ext w0 V → V.cell? ⟨P, 6, none⟩ = some (.pointer none) := fun V h => (((kP.stay hb0).stay h)).cell 6
  have z0 : ∀ V, Ext w0 V → V.cell? ⟨w.heap.size, 0, none⟩ = some (.int .i64 1) := fun V h => ((KQ.out.stay h)).cell 0
  have z1 : ∀ V, Ext w0 V → V.cell? ⟨w.heap.size, 1, none⟩ = some (.int .i64 s) := fun V h => ((KQ.out.stay h)).cell 1
  have z2 : ∀ V, Ext w0 V → V.cell? ⟨w.heap.size, 2, none⟩ = some (.int .i64 k) := fun V h => ((KQ.out.stay h)).cell 2
  have z3 : ∀ V, Ext w0 V → V.cell? ⟨w.heap.size, 3, none⟩ = some (.int .i64 i) := fun V h => ((KQ.out.stay h)).cell 3
  have z4 : ∀ V, Ext w0 V → V.cell? ⟨w.heap.size, 4, none⟩ = some (.int .i64 m) := fun V h => ((KQ.out.stay h)).cell 4
  have z5 : ∀ V, Ext w0 V → V.cell? ⟨w.heap.size, 5, none⟩ = some (.string d) := fun V h => ((KQ.out.stay h)).cell 5
  clear hb0 hw0 kP hl hw hwt hown hG hL hin hm hd hs ht ho hlc
  go_enter Try.func11, Try.ntmps11
  go_wp2_with (go_at_call 35; rw [← HW.out]; (with_reducible refine (CM.out _).mono ?_); rintro e w1 ⟨rfl, hx⟩; have E1 : Hid (Ext w0 w1) := hx; clear hx)
  refine ext_begin (by kernel_rfl) ?_
  have E1d := Lib.hid (Ext.drewR E1.out)
  refine ext_take (i := 0) (v := ?_) rfl (by kernel_rfl) (by kernel_rfl) (by kernel_rfl) (fun _ _ _ h => h) (by rfl) ?_ ?_
  rotate_left
  · intro W hW; have hW0 := Ext.trans E1d.out hW; clear hW; go_simp <;> with_reducible rfl
  try simp only [Act.put, List.setIfInBounds_toArray, List.set_cons_zero, List.set_cons_succ]
  refine ext_take (i := 1) (v := ?_) rfl (by kernel_rfl) (by kernel_rfl) (by kernel_rfl) (fun _ _ _ h => h) (by rfl) ?_ ?_
  rotate_left
  · intro W hW; have hW0 := Ext.trans E1d.out hW; clear hW; go_simp <;> with_reducible rfl
  try simp only [Act.put, List.setIfInBounds_toArray, List.set_cons_zero, List.set_cons_succ]
  refine ext_take (i := 2) (v := ?_) rfl (by kernel_rfl) (by kernel_rfl) (by kernel_rfl) (fun _ _ _ h => h) (by rfl) ?_ ?_
  rotate_left
  · intro W hW; have hW0 := Ext.trans E1d.out hW; clear hW; go_simp <;> with_reducible rfl
  try simp only [Act.put, List.setIfInBounds_toArray, List.set_cons_zero, List.set_cons_succ]
  refine ext_take (i := 3) (v := ?_) rfl (by kernel_rfl) (by kernel_rfl) (by kernel_rfl) (fun _ _ _ h => h) (by rfl) ?_ ?_
  rotate_left
  · intro W hW; have hW0 := Ext.trans E1d.out hW; clear hW; go_simp <;> with_reducible rfl
  try simp only [Act.put, List.setIfInBounds_toArray, List.set_cons_zero, List.set_cons_succ]
  refine ext_take (i := 4) (v := ?_) rfl (by kernel_rfl) (by kernel_rfl) (by kernel_rfl) (fun _ _ _ h => h) (by rfl) ?_ ?_
  rotate_left
  · intro W hW; have hW0 := Ext.trans E1d.out hW; clear hW; go_simp <;> with_reducible rfl
  try simp only [Act.put, List.setIfInBounds_toArray, List.set_cons_zero, List.set_cons_succ]
  refine ext_take (i := 5) (v := ?_) rfl (by kernel_rfl) (by kernel_rfl) (by kernel_rfl) (fun _ _ _ h => h) (by rfl) ?_ ?_
  rotate_left
  · intro W hW; have hW0 := Ext.trans E1d.out hW; clear hW; go_simp <;> with_reducible rfl
  try simp only [Act.put, List.setIfInBounds_toArray, List.set_cons_zero, List.set_cons_succ]
  refine ext_take (i := 6) (v := ?_) rfl (by kernel_rfl) (by kernel_rfl) (by kernel_rfl) (fun _ _ _ h => h) (by rfl) ?_ ?_
  rotate_left
  · intro W hW; have hW0 := Ext.trans E1d.out hW; clear hW; go_simp <;> with_reducible rfl
  try simp only [Act.put, List.setIfInBounds_toArray, List.set_cons_zero, List.set_cons_succ]
  refine ext_take (i := 7) (v := ?_) rfl (by kernel_rfl) (by kernel_rfl) (by kernel_rfl) (fun _ _ _ h => h) (by rfl) ?_ ?_
  rotate_left
  · intro W hW; have hW0 := Ext.trans E1d.out hW; clear hW; go_simp <;> with_reducible rfl
  try simp only [Act.put, List.setIfInBounds_toArray, List.set_cons_zero, List.set_cons_succ]
  refine ext_take (i := 8) (v := ?_) rfl (by kernel_rfl) (by kernel_rfl) (by kernel_rfl) (fun _ _ _ h => h) (by rfl) ?_ ?_
  rotate_left
  · intro W hW; have hW0 := Ext.trans E1d.out hW; clear hW; go_simp <;> with_reducible rfl
  try simp only [Act.put, List.setIfInBounds_toArray, List.set_cons_zero, List.set_cons_succ]
  refine wpAnyH_done (by kernel_rfl) ?_ _
  try go_wp2_with fail
  refine ext_begin (by kernel_rfl) ?_
  have E1dd := Lib.hid (Ext.drewR E1d.out)
  refine ext_take (i := 0) (v := ?_) rfl (by kernel_rfl) (by kernel_rfl) (by kernel_rfl) (fun _ _ _ h => h) (by rfl) ?_ ?_
  rotate_left
  · intro W hW; have hW0 := Ext.trans E1dd.out hW; clear hW; go_simp <;> with_reducible rfl
  try simp only [Act.put, List.setIfInBounds_toArray, List.set_cons_zero, List.set_cons_succ]
  refine ext_take (i := 1) (v := ?_) rfl (by kernel_rfl) (by kernel_rfl) (by kernel_rfl) (fun _ _ _ h => h) (by rfl) ?_ ?_
  rotate_left
  · intro W hW; have hW0 := Ext.trans E1dd.out hW; clear hW; go_simp <;> with_reducible rfl
  try simp only [Act.put, List.setIfInBounds_toArray, List.set_cons_zero, List.set_cons_succ]
  refine ext_take (i := 2) (v := ?_) rfl (by kernel_rfl) (by kernel_rfl) (by kernel_rfl) (fun _ _ _ h => h) (by rfl) ?_ ?_
  rotate_left
  · intro W hW; have hW0 := Ext.trans E1dd.out hW; clear hW; go_simp <;> with_reducible rfl
  try simp only [Act.put, List.setIfInBounds_toArray, List.set_cons_zero, List.set_cons_succ]
  refine ext_take (i := 3) (v := ?_) rfl (by kernel_rfl) (by kernel_rfl) (by kernel_rfl) (fun _ _ _ h => h) (by rfl) ?_ ?_
  rotate_left
  · intro W hW; have hW0 := Ext.trans E1dd.out hW; clear hW; go_simp <;> with_reducible rfl
  try simp only [Act.put, List.setIfInBounds_toArray, List.set_cons_zero, List.set_cons_succ]
  refine ext_take (i := 4) (v := ?_) rfl (by kernel_rfl) (by kernel_rfl) (by kernel_rfl) (fun _ _ _ h => h) (by rfl) ?_ ?_
  rotate_left
  · intro W hW; have hW0 := Ext.trans E1dd.out hW; clear hW; go_simp <;> with_reducible rfl
  try simp only [Act.put, List.setIfInBounds_toArray, List.set_cons_zero, List.set_cons_succ]
  refine ext_take (i := 5) (v := ?_) rfl (by kernel_rfl) (by kernel_rfl) (by kernel_rfl) (fun _ _ _ h => h) (by rfl) ?_ ?_
  rotate_left
  · intro W hW; have hW0 := Ext.trans E1dd.out hW; clear hW; go_simp <;> with_reducible rfl
  try simp only [Act.put, List.setIfInBounds_toArray, List.set_cons_zero, List.set_cons_succ]
  refine ext_take (i := 6) (v := ?_) rfl (by kernel_rfl) (by kernel_rfl) (by kernel_rfl) (fun _ _ _ h => h) (by rfl) ?_ ?_
  rotate_left
  · intro W hW; have hW0 := Ext.trans E1dd.out hW; clear hW; go_simp <;> with_reducible rfl
  try simp only [Act.put, List.setIfInBounds_toArray, List.set_cons_zero, List.set_cons_succ]
  refine ext_take (i := 7) (v := ?_) rfl (by kernel_rfl) (by kernel_rfl) (by kernel_rfl) (fun _ _ _ h => h) (by rfl) ?_ ?_
  rotate_left
  · intro W hW; have hW0 := Ext.trans E1dd.out hW; clear hW; go_simp <;> with_reducible rfl
  try simp only [Act.put, List.setIfInBounds_toArray, List.set_cons_zero, List.set_cons_succ]
  refine ext_call (i := 8) rfl (by kernel_rfl) (by rfl) (fun K' hK => ?_)
  go_simp
  (go_at_call 36; (with_reducible refine (CW.out _).mono ?_); rintro e w2 ⟨rfl, hx⟩; refine hK _ _ hx ?_; clear hK)
  have Ew2 := Lib.hid (Ext.trans E1dd.out hx)
  clear hx
  try simp only [Act.put, List.setIfInBounds_toArray, List.set_cons_zero, List.set_cons_succ]
  refine ext_take (i := 9) (v := ?_) rfl (by kernel_rfl) (by kernel_rfl) (by kernel_rfl) (fun _ _ _ h => h) (by rfl) ?_ ?_
  rotate_left
  · intro W hW; have hW0 := Ext.trans Ew2.out hW; clear hW; go_simp <;> with_reducible rfl
  try simp only [Act.put, List.setIfInBounds_toArray, List.set_cons_zero, List.set_cons_succ]
  refine ext_take (i := 10) (v := ?_) rfl (by kernel_rfl) (by kernel_rfl) (by kernel_rfl) (fun _ _ _ h => h) (by rfl) ?_ ?_
  rotate_left
  · intro W hW; have hW0 := Ext.trans Ew2.out hW; clear hW; go_simp <;> with_reducible rfl
  try simp only [Act.put, List.setIfInBounds_toArray, List.set_cons_zero, List.set_cons_succ]
  refine wpAnyH_done (by kernel_rfl) ?_ _
  have EX := Lib.hid Ew2.out
  clear E1d Ew2
  try go_wp2_with fail
  try go_ret
  exact hD.out _ _ ⟨rfl, Ext.trans X0.out EX.out⟩

set_option maxRecDepth 4000 in
set_option maxHeartbeats 8000000 in
theorem ask_ok1 (base P : Nat) (G : Option Nat) (st : Ps) (s k i m : Int) (d : ByteArray) (w : World) (H : PAt w base P G st) (hd : d.size ≤ maxLen) (hm : mayReqB 1 s k i m d.size = true) (hs : st.w 1 = none) (ht : st.la 1 < s) (hn : st.acts.length ≤ 1000000) :
    Calls Try.prog 11 #[.pointer (some ⟨P, 0, none⟩), .agg #[.int .i64 1, .int .i64 s, .int .i64 k, .int .i64 i, .int .i64 m, .string d]] w fun e w' => e = .returned (.int .i64 0) ∧ POut w w' base P G (askS st ⟨1, s, k, i, m, d⟩) := by
  refine hide_post fun D hD => ?_
  have hsel := H.sel
  have hlt := H.lt
  obtain ⟨hbP, v, l0, l1, l2, l3, p0, p1, p2, p3, o0, o1, o2, o3, L, kP, hl, hw, hwt, hown, hG, hL, hin⟩ := H
  obtain ⟨w0, hw0⟩ : ∃ w0, w0 = w.alloc (.cells #[.int .i64 1, .int .i64 s, .int .i64 k, .int .i64 i, .int .i64 m, .string d] 29) := ⟨_, rfl⟩
  have hb0 : Ext w w0 := by rw [hw0]; exact Ext.alloc _ _
  have KQ : Hid (Blk w0 w.heap.size 29 #[.int .i64 1, .int .i64 s, .int .i64 k, .int .i64 i, .int .i64 m, .string d]) := by show Blk _ _ _ _; rw [hw0]; exact Blk.new _ _ _
  have CM : Hid (∀ V, Calls Try.prog 35 #[.agg #[.int .i64 1, .int .i64 s, .int .i64 k, .int .i64 i, .int .i64 m, .string d]] V fun e w' => e = .returned (.bool true) ∧ Ext V w') := fun V => by rw [← hm]; exact mayReq_any 1 s k i m d V hd
  have X0 : Hid (Ext w w0) := hb0
  have HW := Lib.hid hw0
  have ho : o1 = none := by unfold Ps.w at hs; rw [hw] at hs; exact hs
  have hlc : l1 = st.la 1 := by unfold Ps.la; rw [hl]; rfl
  obtain rfl : p1 = .pointer none := by have h5 := hwt.2.1; rw [ho] at h5; exact h5
  rw [← hlc] at ht
  have CW : Hid (∀ V, Calls Try.prog 36 #[.agg #[.int .i64 1, .int .i64 s, .int .i64 k, .int .i64 i, .int .i64 m, .string d], .int .i64 l1] V fun e w' => e = .returned (.bool true) ∧ Ext V w') := fun V => by
    have h5 := newer_any 1 s k i m d l1 V hd
    rw [hm, Bool.true_and, decide_eq_true ht] at h5
    exact h5
  have y0 : ∀ V, Ext w0 V → V.cell? ⟨P, 0, none⟩ = some (v) := fun V h => (((kP.stay hb0).stay h)).cell 0
  have y2 : ∀ V, Ext w0 V → V.cell? ⟨P, 2, none⟩ = some (.int .i64 l1) := fun V h => (((kP.stay hb0).stay h)).cell 2
  have y6 : ∀ V, Ext w0 V → V.cell? ⟨P, 6, none⟩ = some (.pointer none) := fun V h => (((kP.stay hb0).stay h)).cell 6
  have z0 : ∀ V, Ext w0 V → V.cell? ⟨w.heap.size, 0, none⟩ = some (.int .i64 1) := fun V h => ((KQ.out.stay h)).cell 0
  have z1 : ∀ V, Ext w0 V → V.cell? ⟨w.heap.size, 1, none⟩ = some (.int .i64 s) := fun V h => ((KQ.out.stay h)).cell 1
  have z2 : ∀ V, Ext w0 V → V.cell? ⟨w.heap.size, 2, none⟩ = some (.int .i64 k) := fun V h => ((KQ.out.stay h)).cell 2
  have z3 : ∀ V, Ext w0 V → V.cell? ⟨w.heap.size, 3, none⟩ = some (.int .i64 i) := fun V h => ((KQ.out.stay h)).cell 3
  have z4 : ∀ V, Ext w0 V → V.cell? ⟨w.heap.size, 4, none⟩ = some (.int .i64 m) := fun V h => ((KQ.out.stay h)).cell 4
  have z5 : ∀ V, Ext w0 V → V.cell? ⟨w.heap.size, 5, none⟩ = some (.string d) := fun V h => ((KQ.out.stay h)).cell 5
  have hLn : L.length ≤ 1000000000 := by have h5 := congrArg List.length hL; rw [List.length_map] at h5; omega
  have HLN : Hid (L.length ≤ 1000000000) := hLn
  have HKP := Lib.hid (kP.stay hb0)
  have HKPw := Lib.hid kP
  have HOWNw := Lib.hid hown
  have HWT := Lib.hid hwt
  have HOWN := Lib.hid hown
  have HG : Hid (v.ownBlock = G) := hG
  have HL := Lib.hid hL
  have HIN := Lib.hid hin
  have HBP : Hid (base ≤ P) := hbP
  have HBS : Hid (base ≤ w.heap.size) := Nat.le_trans hbP (Nat.le_of_lt hlt)
  have HLT : Hid (P < w.heap.size) := hlt
  have HLS := Lib.hid hl
  have HWS := Lib.hid hw
  have HNP : Hid (¬ some P = G) := fun e => by
    obtain ⟨cs, hc⟩ := own_blk hown (hG.trans e.symm)
    exact Blk.apart kP hc (by decide) rfl
  clear hb0 hw0 kP hl hw hwt hown hG hL hin hm hd hs ht ho hlc hlt hsel hbP hLn
  obtain ⟨g, hg⟩ : ∃ g, g = w.heap.size := ⟨_, rfl⟩
  have HGG := Lib.hid hg
  rw [← hg] at KQ z0 z1 z2 z3 z4 z5
  go_enter Try.func11, Try.ntmps11
  go_wp2_with (go_at_call 35; rw [← HW.out]; (with_reducible refine (CM.out _).mono ?_); rintro e w1 ⟨rfl, hx⟩; have E1 : Hid (Ext w0 w1) := hx; clear hx)
  rw [← HGG.out]
  clear hg
  refine ext_begin (by kernel_rfl) ?_
  have E1d := Lib.hid (Ext.drewR E1.out)
  refine ext_take (i := 0) (v := ?_) rfl (by kernel_rfl) (by kernel_rfl) (by kernel_rfl) (fun _ _ _ h => h) (by rfl) ?_ ?_
  rotate_left
  · intro W hW; have hW0 := Ext.trans E1d.out hW; clear hW; go_simp <;> with_reducible rfl
  try simp only [Act.put, List.setIfInBounds_toArray, List.set_cons_zero, List.set_cons_succ]
  refine ext_take (i := 1) (v := ?_) rfl (by kernel_rfl) (by kernel_rfl) (by kernel_rfl) (fun _ _ _ h => h) (by rfl) ?_ ?_
  rotate_left
  · intro W hW; have hW0 := Ext.trans E1d.out hW; clear hW; go_simp <;> with_reducible rfl
  try simp only [Act.put, List.setIfInBounds_toArray, List.set_cons_zero, List.set_cons_succ]
  refine ext_take (i := 2) (v := ?_) rfl (by kernel_rfl) (by kernel_rfl) (by kernel_rfl) (fun _ _ _ h => h) (by rfl) ?_ ?_
  rotate_left
  · intro W hW; have hW0 := Ext.trans E1d.out hW; clear hW; go_simp <;> with_reducible rfl
  try simp only [Act.put, List.setIfInBounds_toArray, List.set_cons_zero, List.set_cons_succ]
  refine ext_take (i := 3) (v := ?_) rfl (by kernel_rfl) (by kernel_rfl) (by kernel_rfl) (fun _ _ _ h => h) (by rfl) ?_ ?_
  rotate_left
  · intro W hW; have hW0 := Ext.trans E1d.out hW; clear hW; go_simp <;> with_reducible rfl
  try simp only [Act.put, List.setIfInBounds_toArray, List.set_cons_zero, List.set_cons_succ]
  refine ext_take (i := 4) (v := ?_) rfl (by kernel_rfl) (by kernel_rfl) (by kernel_rfl) (fun _ _ _ h => h) (by rfl) ?_ ?_
  rotate_left
  · intro W hW; have hW0 := Ext.trans E1d.out hW; clear hW; go_simp <;> with_reducible rfl
  try simp only [Act.put, List.setIfInBounds_toArray, List.set_cons_zero, List.set_cons_succ]
  refine ext_take (i := 5) (v := ?_) rfl (by kernel_rfl) (by kernel_rfl) (by kernel_rfl) (fun _ _ _ h => h) (by rfl) ?_ ?_
  rotate_left
  · intro W hW; have hW0 := Ext.trans E1d.out hW; clear hW; go_simp <;> with_reducible rfl
  try simp only [Act.put, List.setIfInBounds_toArray, List.set_cons_zero, List.set_cons_succ]
  refine ext_take (i := 6) (v := ?_) rfl (by kernel_rfl) (by kernel_rfl) (by kernel_rfl) (fun _ _ _ h => h) (by rfl) ?_ ?_
  rotate_left
  · intro W hW; have hW0 := Ext.trans E1d.out hW; clear hW; go_simp <;> with_reducible rfl
  try simp only [Act.put, List.setIfInBounds_toArray, List.set_cons_zero, List.set_cons_succ]
  refine ext_take (i := 7) (v := ?_) rfl (by kernel_rfl) (by kernel_rfl) (by kernel_rfl) (fun _ _ _ h => h) (by rfl) ?_ ?_
  rotate_left
  · intro W hW; have hW0 := Ext.trans E1d.out hW; clear hW; go_simp <;> with_reducible rfl
  try simp only [Act.put, List.setIfInBounds_toArray, List.set_cons_zero, List.set_cons_succ]
  refine ext_take (i := 8) (v := ?_) rfl (by kernel_rfl) (by kernel_rfl) (by kernel_rfl) (fun _ _ _ h => h) (by rfl) ?_ ?_
  rotate_left
  · intro W hW; have hW0 := Ext.trans E1d.out hW; clear hW; go_simp <;> with_reducible rfl
  try simp only [Act.put, List.setIfInBounds_toArray, List.set_cons_zero, List.set_cons_succ]
  refine wpAnyH_done (by kernel_rfl) ?_ _
  try go_wp2_with fail
  refine ext_begin (by kernel_rfl) ?_
  have E1dd := Lib.hid (Ext.drewR E1d.out)
  refine ext_take (i := 0) (v := ?_) rfl (by kernel_rfl) (by kernel_rfl) (by kernel_rfl) (fun _ _ _ h => h) (by rfl) ?_ ?_
  rotate_left
  · intro W hW; have hW0 := Ext.trans E1dd.out hW; clear hW; go_simp <;> with_reducible rfl
  try simp only [Act.put, List.setIfInBounds_toArray, List.set_cons_zero, List.set_cons_succ]
  refine ext_take (i := 1) (v := ?_) rfl (by kernel_rfl) (by kernel_rfl) (by kernel_rfl) (fun _ _ _ h => h) (by rfl) ?_ ?_
  rotate_left
  · intro W hW; have hW0 := Ext.trans E1dd.out hW; clear hW; go_simp <;> with_reducible rfl
  try simp only [Act.put, List.setIfInBounds_toArray, List.set_cons_zero, List.set_cons_succ]
  refine ext_take (i := 2) (v := ?_) rfl (by kernel_rfl) (by kernel_rfl) (by kernel_rfl) (fun _ _ _ h => h) (by rfl) ?_ ?_
  rotate_left
  · intro W hW; have hW0 := Ext.trans E1dd.out hW; clear hW; go_simp <;> with_reducible rfl
  try simp only [Act.put, List.setIfInBounds_toArray, List.set_cons_zero, List.set_cons_succ]
  refine ext_take (i := 3) (v := ?_) rfl (by kernel_rfl) (by kernel_rfl) (by kernel_rfl) (fun _ _ _ h => h) (by rfl) ?_ ?_
  rotate_left
  · intro W hW; have hW0 := Ext.trans E1dd.out hW; clear hW; go_simp <;> with_reducible rfl
  try simp only [Act.put, List.setIfInBounds_toArray, List.set_cons_zero, List.set_cons_succ]
  refine ext_take (i := 4) (v := ?_) rfl (by kernel_rfl) (by kernel_rfl) (by kernel_rfl) (fun _ _ _ h => h) (by rfl) ?_ ?_
  rotate_left
  · intro W hW; have hW0 := Ext.trans E1dd.out hW; clear hW; go_simp <;> with_reducible rfl
  try simp only [Act.put, List.setIfInBounds_toArray, List.set_cons_zero, List.set_cons_succ]
  refine ext_take (i := 5) (v := ?_) rfl (by kernel_rfl) (by kernel_rfl) (by kernel_rfl) (fun _ _ _ h => h) (by rfl) ?_ ?_
  rotate_left
  · intro W hW; have hW0 := Ext.trans E1dd.out hW; clear hW; go_simp <;> with_reducible rfl
  try simp only [Act.put, List.setIfInBounds_toArray, List.set_cons_zero, List.set_cons_succ]
  refine ext_take (i := 6) (v := ?_) rfl (by kernel_rfl) (by kernel_rfl) (by kernel_rfl) (fun _ _ _ h => h) (by rfl) ?_ ?_
  rotate_left
  · intro W hW; have hW0 := Ext.trans E1dd.out hW; clear hW; go_simp <;> with_reducible rfl
  try simp only [Act.put, List.setIfInBounds_toArray, List.set_cons_zero, List.set_cons_succ]
  refine ext_take (i := 7) (v := ?_) rfl (by kernel_rfl) (by kernel_rfl) (by kernel_rfl) (fun _ _ _ h => h) (by rfl) ?_ ?_
  rotate_left
  · intro W hW; have hW0 := Ext.trans E1dd.out hW; clear hW; go_simp <;> with_reducible rfl
  try simp only [Act.put, List.setIfInBounds_toArray, List.set_cons_zero, List.set_cons_succ]
  refine ext_call (i := 8) rfl (by kernel_rfl) (by rfl) (fun K' hK => ?_)
  go_simp
  (go_at_call 36; (with_reducible refine (CW.out _).mono ?_); rintro e w2 ⟨rfl, hx⟩; refine hK _ _ hx ?_; clear hK)
  have Ew2 := Lib.hid (Ext.trans E1dd.out hx)
  clear hx
  try simp only [Act.put, List.setIfInBounds_toArray, List.set_cons_zero, List.set_cons_succ]
  refine ext_take (i := 9) (v := ?_) rfl (by kernel_rfl) (by kernel_rfl) (by kernel_rfl) (fun _ _ _ h => h) (by rfl) ?_ ?_
  rotate_left
  · intro W hW; have hW0 := Ext.trans Ew2.out hW; clear hW; go_simp <;> with_reducible rfl
  try simp only [Act.put, List.setIfInBounds_toArray, List.set_cons_zero, List.set_cons_succ]
  refine ext_take (i := 10) (v := ?_) rfl (by kernel_rfl) (by kernel_rfl) (by kernel_rfl) (fun _ _ _ h => h) (by rfl) ?_ ?_
  rotate_left
  · intro W hW; have hW0 := Ext.trans Ew2.out hW; clear hW; go_simp <;> with_reducible rfl
  try simp only [Act.put, List.setIfInBounds_toArray, List.set_cons_zero, List.set_cons_succ]
  refine wpAnyH_done (by kernel_rfl) ?_ _
  try go_wp2_with fail
  obtain ⟨Wa, hWa⟩ : ∃ Wa, Wa = w2 := ⟨_, rfl⟩
  rw [← hWa] at Ew2 ⊢
  clear hWa
  have HKQa := Lib.hid (KQ.out.stay Ew2.out)
  have KPa := Lib.hid (HKP.out.stay Ew2.out)
  have hgne : ¬ g = P := by have h1 := HGG.out; have h2 := HLT.out; omega
  have KP : Hid (Blk Wa.drew P 77 #[v, .int .i64 l0, .int .i64 l1, .int .i64 l2, .int .i64 l3, p0, .pointer none, p2, p3]) := KPa.out.drew
  have E0f : Hid (Frm (fun k => k = P) Wa Wa.drew) := (Frm.refl _ _).drew
  have EaX : Hid (Ext w Wa) := Ext.trans X0.out Ew2.out
  clear y0 y2 y6 z0 z1 z2 z3 z4 z5 E1d
  have z0 : ∀ V, Frm (fun k => k = P) Wa V → V.cell? ⟨g, 0, none⟩ = some (.int .i64 1) := fun V h => ((HKQa.out.frm h hgne)).cell 0
  have z1 : ∀ V, Frm (fun k => k = P) Wa V → V.cell? ⟨g, 1, none⟩ = some (.int .i64 s) := fun V h => ((HKQa.out.frm h hgne)).cell 1
  have z2 : ∀ V, Frm (fun k => k = P) Wa V → V.cell? ⟨g, 2, none⟩ = some (.int .i64 k) := fun V h => ((HKQa.out.frm h hgne)).cell 2
  have z3 : ∀ V, Frm (fun k => k = P) Wa V → V.cell? ⟨g, 3, none⟩ = some (.int .i64 i) := fun V h => ((HKQa.out.frm h hgne)).cell 3
  have z4 : ∀ V, Frm (fun k => k = P) Wa V → V.cell? ⟨g, 4, none⟩ = some (.int .i64 m) := fun V h => ((HKQa.out.frm h hgne)).cell 4
  have z5 : ∀ V, Frm (fun k => k = P) Wa V → V.cell? ⟨g, 5, none⟩ = some (.string d) := fun V h => ((HKQa.out.frm h hgne)).cell 5
  refine rz_begin (fun k => k = P) [] (by kernel_rfl) ?_
  refine rz_take [8, 9, 10, 11, 14, 15] (i := 0) (v := ?_) rfl (by kernel_rfl) (by kernel_rfl) (by kernel_rfl) (by kernel_rfl) (by kernel_rfl) (by kernel_rfl) (fun _ _ _ h => h) (by rfl) ?_ ?_
  rotate_left
  · intro W hW; have hW0 := Frm.tr E0f.out hW; clear hW; go_simp <;> with_reducible rfl
  try simp only [Act.put, List.setIfInBounds_toArray, List.set_cons_zero, List.set_cons_succ]
  refine rz_take [2, 10, 11, 14, 15] (i := 1) (v := ?_) rfl (by kernel_rfl) (by kernel_rfl) (by kernel_rfl) (by kernel_rfl) (by kernel_rfl) (by kernel_rfl) (fun _ _ _ h => h) (by rfl) ?_ ?_
  rotate_left
  · intro W hW; have hW0 := Frm.tr E0f.out hW; clear hW; go_simp <;> with_reducible rfl
  try simp only [Act.put, List.setIfInBounds_toArray, List.set_cons_zero, List.set_cons_succ]
  refine rz_take [10, 11, 14, 15] (i := 2) (v := ?_) rfl (by kernel_rfl) (by kernel_rfl) (by kernel_rfl) (by kernel_rfl) (by kernel_rfl) (by kernel_rfl) (fun _ _ _ h => h) (by rfl) ?_ ?_
  rotate_left
  · intro W hW; have hW0 := Frm.tr E0f.out hW; clear hW; go_simp <;> with_reducible rfl
  try simp only [Act.put, List.setIfInBounds_toArray, List.set_cons_zero, List.set_cons_succ]
  refine rz_take [12, 13, 14, 15] (i := 3) (v := ?_) rfl (by kernel_rfl) (by kernel_rfl) (by kernel_rfl) (by kernel_rfl) (by kernel_rfl) (by kernel_rfl) (fun _ _ _ h => h) (by rfl) ?_ ?_
  rotate_left
  · intro W hW; have hW0 := Frm.tr E0f.out hW; clear hW; go_simp <;> with_reducible rfl
  try simp only [Act.put, List.setIfInBounds_toArray, List.set_cons_zero, List.set_cons_succ]
  refine rz_take [5, 10, 11, 14, 15] (i := 4) (v := ?_) rfl (by kernel_rfl) (by kernel_rfl) (by kernel_rfl) (by kernel_rfl) (by kernel_rfl) (by kernel_rfl) (fun _ _ _ h => h) (by rfl) ?_ ?_
  rotate_left
  · intro W hW; have hW0 := Frm.tr E0f.out hW; clear hW; go_simp <;> with_reducible rfl
  try simp only [Act.put, List.setIfInBounds_toArray, List.set_cons_zero, List.set_cons_succ]
  refine rz_take [10, 11, 14, 15] (i := 5) (v := ?_) rfl (by kernel_rfl) (by kernel_rfl) (by kernel_rfl) (by kernel_rfl) (by kernel_rfl) (by kernel_rfl) (fun _ _ _ h => h) (by rfl) ?_ ?_
  rotate_left
  · intro W hW; have hW0 := Frm.tr E0f.out hW; clear hW; go_simp <;> with_reducible rfl
  try simp only [Act.put, List.setIfInBounds_toArray, List.set_cons_zero, List.set_cons_succ]
  refine rz_take [7, 10, 11, 14, 15] (i := 6) (v := ?_) rfl (by kernel_rfl) (by kernel_rfl) (by kernel_rfl) (by kernel_rfl) (by kernel_rfl) (by kernel_rfl) (fun _ _ _ h => h) (by rfl) ?_ ?_
  rotate_left
  · intro W hW; have hW0 := Frm.tr E0f.out hW; clear hW; go_simp <;> with_reducible rfl
  try simp only [Act.put, List.setIfInBounds_toArray, List.set_cons_zero, List.set_cons_succ]
  refine rz_take [10, 11, 14, 15] (i := 7) (v := ?_) rfl (by kernel_rfl) (by kernel_rfl) (by kernel_rfl) (by kernel_rfl) (by kernel_rfl) (by kernel_rfl) (fun _ _ _ h => h) (by rfl) ?_ ?_
  rotate_left
  · intro W hW; have hW0 := Frm.tr E0f.out hW; clear hW; go_simp <;> with_reducible rfl
  try simp only [Act.put, List.setIfInBounds_toArray, List.set_cons_zero, List.set_cons_succ]
  refine rz_take [9, 10, 11, 14, 15] (i := 8) (v := ?_) rfl (by kernel_rfl) (by kernel_rfl) (by kernel_rfl) (by kernel_rfl) (by kernel_rfl) (by kernel_rfl) (fun _ _ _ h => h) (by rfl) ?_ ?_
  rotate_left
  · intro W hW; have hW0 := Frm.tr E0f.out hW; clear hW; go_simp <;> with_reducible rfl
  try simp only [Act.put, List.setIfInBounds_toArray, List.set_cons_zero, List.set_cons_succ]
  refine rz_take [10, 11, 14, 15] (i := 9) (v := ?_) rfl (by kernel_rfl) (by kernel_rfl) (by kernel_rfl) (by kernel_rfl) (by kernel_rfl) (by kernel_rfl) (fun _ _ _ h => h) (by rfl) ?_ ?_
  rotate_left
  · intro W hW; have hW0 := Frm.tr E0f.out hW; clear hW; go_simp <;> with_reducible rfl
  try simp only [Act.put, List.setIfInBounds_toArray, List.set_cons_zero, List.set_cons_succ]
  refine rz_take [11, 14, 15] (i := 10) (v := ?_) rfl (by kernel_rfl) (by kernel_rfl) (by kernel_rfl) (by kernel_rfl) (by kernel_rfl) (by kernel_rfl) (fun _ _ _ h => h) (by rfl) ?_ ?_
  rotate_left
  · intro W hW; have hW0 := Frm.tr E0f.out hW; clear hW; go_simp <;> with_reducible rfl
  try simp only [Act.put, List.setIfInBounds_toArray, List.set_cons_zero, List.set_cons_succ]
  refine rz_take [13, 14, 15] (i := 12) (v := ?_) rfl (by kernel_rfl) (by kernel_rfl) (by kernel_rfl) (by kernel_rfl) (by kernel_rfl) (by kernel_rfl) (fun _ _ _ h => h) (by rfl) ?_ ?_
  rotate_left
  · intro W hW; have hW0 := Frm.tr E0f.out hW; clear hW; go_simp <;> with_reducible rfl
  try simp only [Act.put, List.setIfInBounds_toArray, List.set_cons_zero, List.set_cons_succ]
  refine rz_take [14, 15] (i := 13) (v := ?_) rfl (by kernel_rfl) (by kernel_rfl) (by kernel_rfl) (by kernel_rfl) (by kernel_rfl) (by kernel_rfl) (fun _ _ _ h => h) (by rfl) ?_ ?_
  rotate_left
  · intro W hW; have hW0 := Frm.tr E0f.out hW; clear hW; go_simp <;> with_reducible rfl
  try simp only [Act.put, List.setIfInBounds_toArray, List.set_cons_zero, List.set_cons_succ]
  refine rz_call (i := 11) rfl (by kernel_rfl) (by rfl) (fun K hK => ?_)
  have q1 := KP.out.frozen 6
  have r1 := KP.out.cell 6
  simp at r1
  go_simp
  refine hK _ _ (Frm.of_set _ _ _ rfl) ?_; clear hK K q1 r1
  obtain ⟨W1, hW1⟩ : ∃ W1, W1 = (Wa.setCell ⟨P, 6, none⟩ (.pointer (some ⟨g, 0, none⟩))).drew := ⟨_, rfl⟩
  have KP1 : Hid (Blk W1 P 77 #[v, .int .i64 l0, .int .i64 l1, .int .i64 l2, .int .i64 l3, p0, .pointer (some ⟨g, 0, none⟩), p2, p3]) := by (show Blk _ _ _ _); rw [hW1]; exact KP.out.set 6 _
  have F1 : Hid (Frm (fun k => k = P) Wa.drew W1) := by (show Frm _ _ _); rw [hW1]; exact Frm.of_set (s := fun k => k = P) Wa.drew ⟨P, 6, none⟩ _ rfl
  have E8 : Hid (Frm (fun k => k = P) Wa W1) := Frm.tr E0f.out F1.out
  try rw [← hW1]
  clear hW1
  try simp only [Act.put, List.setIfInBounds_toArray, List.set_cons_zero, List.set_cons_succ]
  refine rz_take [15] (i := 14) (v := ?_) rfl (by kernel_rfl) (by kernel_rfl) (by kernel_rfl) (by kernel_rfl) (by kernel_rfl) (by kernel_rfl) (fun _ _ _ h => h) (by rfl) ?_ ?_
  rotate_left
  · intro W hW; have hW0 := Frm.tr E8.out hW; clear hW; go_simp <;> with_reducible rfl
  try simp only [Act.put, List.setIfInBounds_toArray, List.set_cons_zero, List.set_cons_succ]
  refine rz_call (i := 15) rfl (by kernel_rfl) (by rfl) (fun K hK => ?_)
  have q1 := KP1.out.frozen 2
  have r1 := KP1.out.cell 2
  simp at r1
  go_simp
  refine hK _ _ (Frm.of_set _ _ _ rfl) ?_; clear hK K q1 r1
  obtain ⟨W2, hW2⟩ : ∃ W2, W2 = W1.setCell ⟨P, 2, none⟩ (.int .i64 s) := ⟨_, rfl⟩
  have KP2 : Hid (Blk W2 P 77 #[v, .int .i64 l0, .int .i64 s, .int .i64 l2, .int .i64 l3, p0, .pointer (some ⟨g, 0, none⟩), p2, p3]) := by (show Blk _ _ _ _); rw [hW2]; exact KP1.out.set 2 _
  have F2 : Hid (Frm (fun k => k = P) Wa.drew W2) := by (show Frm _ _ _); rw [hW2]; exact Frm.tr F1.out (Frm.of_set _ _ _ rfl)
  have E9 : Hid (Frm (fun k => k = P) Wa W2) := Frm.tr E0f.out (Frm.tr (Frm.refl _ _) F2.out)
  try rw [← hW2]
  clear hW2
  try simp only [Act.put, List.setIfInBounds_toArray, List.set_cons_zero, List.set_cons_succ]
  refine rz_done (by kernel_rfl) ?_ _
  try go_wp2_with fail
  have EP2 : Hid (Frm (fun k => k = P) w W2) := Frm.tr (Frm.of_below EaX.out _) E9.out
  have HKQ2 := Lib.hid (HKQa.out.frm E9.out hgne)
  have HOWN2 := Lib.hid (own_frmN HOWN.out EP2.out (fun k hk e => HNP.out (by rw [← e, ← hk]; exact HG.out)))
  clear z0 z1 z2 z3 z4 z5
  have hgG : ¬ some g = G := fun e => by
    obtain ⟨cs, hc⟩ := own_blk HOWN2.out (HG.out.trans e.symm)
    exact Blk.apart HKQ2.out hc (by decide) rfl
  have z0 : ∀ V, Frm (fun k => some k = G) W2 V → V.cell? ⟨g, 0, none⟩ = some (.int .i64 1) := fun V h => ((HKQ2.out.frm h hgG)).cell 0
  have z1 : ∀ V, Frm (fun k => some k = G) W2 V → V.cell? ⟨g, 1, none⟩ = some (.int .i64 s) := fun V h => ((HKQ2.out.frm h hgG)).cell 1
  have z2 : ∀ V, Frm (fun k => some k = G) W2 V → V.cell? ⟨g, 2, none⟩ = some (.int .i64 k) := fun V h => ((HKQ2.out.frm h hgG)).cell 2
  have z3 : ∀ V, Frm (fun k => some k = G) W2 V → V.cell? ⟨g, 3, none⟩ = some (.int .i64 i) := fun V h => ((HKQ2.out.frm h hgG)).cell 3
  have z4 : ∀ V, Frm (fun k => some k = G) W2 V → V.cell? ⟨g, 4, none⟩ = some (.int .i64 m) := fun V h => ((HKQ2.out.frm h hgG)).cell 4
  have z5 : ∀ V, Frm (fun k => some k = G) W2 V → V.cell? ⟨g, 5, none⟩ = some (.string d) := fun V h => ((HKQ2.out.frm h hgG)).cell 5
  have y0 : ∀ V, Frm (fun k => some k = G) W2 V → V.cell? ⟨P, 0, none⟩ = some (v) := fun V h => (KP2.out.frm h HNP.out).cell 0
  have Xe : Hid (Ext W2 W2.drew) := (Ext.refl _).drewR
  have E0g : Hid (Frm (fun k => some k = G) W2 W2.drew) := Frm.of_below Xe.out _
  refine rz_begin (fun k => some k = G) [15] (by kernel_rfl) ?_
  refine rz_take [13, 14, 15] (i := 0) (v := ?_) rfl (by kernel_rfl) (by kernel_rfl) (by kernel_rfl) (by kernel_rfl) (by kernel_rfl) (by kernel_rfl) (fun _ _ _ h => h) (by rfl) ?_ ?_
  rotate_left
  · intro W hW; have hW0 := Frm.tr E0g.out hW; clear hW; go_simp <;> with_reducible rfl
  try simp only [Act.put, List.setIfInBounds_toArray, List.set_cons_zero, List.set_cons_succ]
  refine rz_take [2, 3, 4, 12, 13, 14, 15] (i := 1) (v := ?_) rfl (by kernel_rfl) (by kernel_rfl) (by kernel_rfl) (by kernel_rfl) (by kernel_rfl) (by kernel_rfl) (fun _ _ _ h => h) (by rfl) ?_ ?_
  rotate_left
  · intro W hW; have hW0 := Frm.tr E0g.out hW; clear hW; go_simp <;> with_reducible rfl
  try simp only [Act.put, List.setIfInBounds_toArray, List.set_cons_zero, List.set_cons_succ]
  refine rz_take [3, 4, 12, 13, 14, 15] (i := 2) (v := ?_) rfl (by kernel_rfl) (by kernel_rfl) (by kernel_rfl) (by kernel_rfl) (by kernel_rfl) (by kernel_rfl) (fun _ _ _ h => h) (by rfl) ?_ ?_
  rotate_left
  · intro W hW; have hW0 := Frm.tr E0g.out hW; clear hW; go_simp <;> with_reducible rfl
  try simp only [Act.put, List.setIfInBounds_toArray, List.set_cons_zero, List.set_cons_succ]
  refine rz_take [4, 12, 13, 14, 15] (i := 3) (v := ?_) rfl (by kernel_rfl) (by kernel_rfl) (by kernel_rfl) (by kernel_rfl) (by kernel_rfl) (by kernel_rfl) (fun _ _ _ h => h) (by rfl) ?_ ?_
  rotate_left
  · intro W hW; have hW0 := Frm.tr E0g.out hW; clear hW; go_simp <;> with_reducible rfl
  try simp only [Act.put, List.setIfInBounds_toArray, List.set_cons_zero, List.set_cons_succ]
  refine rz_take [12, 13, 14, 15] (i := 4) (v := ?_) rfl (by kernel_rfl) (by kernel_rfl) (by kernel_rfl) (by kernel_rfl) (by kernel_rfl) (by kernel_rfl) (fun _ _ _ h => h) (by rfl) ?_ ?_
  rotate_left
  · intro W hW; have hW0 := Frm.tr E0g.out hW; clear hW; go_simp <;> with_reducible rfl
  try simp only [Act.put, List.setIfInBounds_toArray, List.set_cons_zero, List.set_cons_succ]
  refine rz_take [6, 10, 11, 12, 13, 14, 15] (i := 5) (v := ?_) rfl (by kernel_rfl) (by kernel_rfl) (by kernel_rfl) (by kernel_rfl) (by kernel_rfl) (by kernel_rfl) (fun _ _ _ h => h) (by rfl) ?_ ?_
  rotate_left
  · intro W hW; have hW0 := Frm.tr E0g.out hW; clear hW; go_simp <;> with_reducible rfl
  try simp only [Act.put, List.setIfInBounds_toArray, List.set_cons_zero, List.set_cons_succ]
  refine rz_take [10, 11, 12, 13, 14, 15] (i := 6) (v := ?_) rfl (by kernel_rfl) (by kernel_rfl) (by kernel_rfl) (by kernel_rfl) (by kernel_rfl) (by kernel_rfl) (fun _ _ _ h => h) (by rfl) ?_ ?_
  rotate_left
  · intro W hW; have hW0 := Frm.tr E0g.out hW; clear hW; go_simp <;> with_reducible rfl
  try simp only [Act.put, List.setIfInBounds_toArray, List.set_cons_zero, List.set_cons_succ]
  refine rz_take [8, 10, 11, 12, 13, 14, 15] (i := 7) (v := ?_) rfl (by kernel_rfl) (by kernel_rfl) (by kernel_rfl) (by kernel_rfl) (by kernel_rfl) (by kernel_rfl) (fun _ _ _ h => h) (by rfl) ?_ ?_
  rotate_left
  · intro W hW; have hW0 := Frm.tr E0g.out hW; clear hW; go_simp <;> with_reducible rfl
  try simp only [Act.put, List.setIfInBounds_toArray, List.set_cons_zero, List.set_cons_succ]
  refine rz_take [10, 11, 12, 13, 14, 15] (i := 8) (v := ?_) rfl (by kernel_rfl) (by kernel_rfl) (by kernel_rfl) (by kernel_rfl) (by kernel_rfl) (by kernel_rfl) (fun _ _ _ h => h) (by rfl) ?_ ?_
  rotate_left
  · intro W hW; have hW0 := Frm.tr E0g.out hW; clear hW; go_simp <;> with_reducible rfl
  try simp only [Act.put, List.setIfInBounds_toArray, List.set_cons_zero, List.set_cons_succ]
  refine rz_take [10, 11, 12, 13, 14, 15] (i := 9) (v := ?_) rfl (by kernel_rfl) (by kernel_rfl) (by kernel_rfl) (by kernel_rfl) (by kernel_rfl) (by kernel_rfl) (fun _ _ _ h => h) (by rfl) ?_ ?_
  rotate_left
  · intro W hW; have hW0 := Frm.tr E0g.out hW; clear hW; go_simp <;> with_reducible rfl
  try simp only [Act.put, List.setIfInBounds_toArray, List.set_cons_zero, List.set_cons_succ]
  refine rz_take [11, 12, 13, 14, 15] (i := 10) (v := ?_) rfl (by kernel_rfl) (by kernel_rfl) (by kernel_rfl) (by kernel_rfl) (by kernel_rfl) (by kernel_rfl) (fun _ _ _ h => h) (by rfl) ?_ ?_
  rotate_left
  · intro W hW; have hW0 := Frm.tr E0g.out hW; clear hW; go_simp <;> with_reducible rfl
  try simp only [Act.put, List.setIfInBounds_toArray, List.set_cons_zero, List.set_cons_succ]
  refine rz_call (i := 11) rfl (by kernel_rfl) (by rfl) (fun K hK => ?_)
  go_simp
  refine hK _ _ (Frm.of_alloc _ _ _) ?_; clear hK K
  obtain ⟨W3, hW3⟩ : ∃ W3, W3 = (W2.alloc (.cells #[.int .i64 1, .int .i64 s, .bool false, .int .i64 1, .int .i64 s, .int .i64 k, .int .i64 i, .int .i64 m, .string d, .int .i64 0, .int .i64 0, .string ⟨#[]⟩, .slice none 0 0, .int .i64 0] 50)).drew := ⟨_, rfl⟩
  have KR3 : Hid (Blk W3 W2.drew.heap.size 50 #[.int .i64 1, .int .i64 s, .bool false, .int .i64 1, .int .i64 s, .int .i64 k, .int .i64 i, .int .i64 m, .string d, .int .i64 0, .int .i64 0, .string ⟨#[]⟩, .slice none 0 0, .int .i64 0]) := by (show Blk _ _ _ _); rw [hW3]; exact Blk.new W2.drew _ _
  have X3 : Hid (Ext W2.drew W3) := by (show Ext _ _); rw [hW3]; exact Ext.alloc W2.drew _
  have E3 : Hid (Frm (fun k => some k = G) W2 W3) := Frm.tr E0g.out (Frm.of_below X3.out _)
  try rw [← hW3]
  clear hW3
  try simp only [Act.put, List.setIfInBounds_toArray, List.set_cons_zero, List.set_cons_succ]
  refine rz_call (i := 12) rfl (by kernel_rfl) (by rfl) (fun K hK => ?_)
  refine wp_append_wide (.tmp 51) (.tmp 58) 26 rfl base 50 _ 14 144 Try.underlying26 info_act rfl (by decide) (by decide) v L.length (flatA L) rfl (own_frmN HOWN2.out (Frm.of_below (Ext.trans Xe.out X3.out) (fun _ => False)) (fun _ _ h => h)) W2.drew.heap.size [.int .i64 1, .int .i64 s, .bool false, .int .i64 1, .int .i64 s, .int .i64 k, .int .i64 i, .int .i64 m, .string d, .int .i64 0, .int .i64 0, .string ⟨#[]⟩, .slice none 0 0, .int .i64 0] rfl rfl KR3.out (by intro y hy; simp at hy; rcases hy with rfl | rfl | rfl | rfl | rfl | rfl | rfl | rfl | rfl | rfl | rfl | rfl | rfl | rfl <;> rfl) HLN.out (Nat.le_trans HBS.out (Nat.le_trans (Frm.tr EP2.out (Frm.of_below Xe.out _)).size X3.out.size)) ?_
  intro v2 W4 oo gg bb
  obtain ⟨A2, cap2, hv2⟩ := own_shape oo
  subst hv2
  refine hK _ _ (Frm.of_grown gg (fun k hk => hk.trans HG.out)) ?_; clear hK K
  have O4 := Lib.hid oo
  have G4 := Lib.hid gg
  have BB4 := Lib.hid bb
  have E4 : Hid (Frm (fun k => some k = G) W2 W4) := Frm.tr E3.out (Frm.of_grown gg (fun k hk => hk.trans HG.out))
  clear oo gg bb
  have KP4 : Hid (Blk W4 P 77 #[v, .int .i64 l0, .int .i64 s, .int .i64 l2, .int .i64 l3, p0, .pointer (some ⟨g, 0, none⟩), p2, p3]) := KP2.out.frm E4.out (fun e => HNP.out e)
  try simp only [Act.put, List.setIfInBounds_toArray, List.set_cons_zero, List.set_cons_succ]
  refine rz_take [14, 15] (i := 13) (v := ?_) rfl (by kernel_rfl) (by kernel_rfl) (by kernel_rfl) (by kernel_rfl) (by kernel_rfl) (by kernel_rfl) (fun _ _ _ h => h) (by rfl) ?_ ?_
  rotate_left
  · intro W hW; have hW0 := Frm.tr E4.out hW; clear hW; go_simp <;> with_reducible rfl
  try simp only [Act.put, List.setIfInBounds_toArray, List.set_cons_zero, List.set_cons_succ]
  refine rz_take [15] (i := 14) (v := ?_) rfl (by kernel_rfl) (by kernel_rfl) (by kernel_rfl) (by kernel_rfl) (by kernel_rfl) (by kernel_rfl) (fun _ _ _ h => h) (by rfl) ?_ ?_
  rotate_left
  · intro W hW; have hW0 := Frm.tr E4.out hW; clear hW; go_simp <;> with_reducible rfl
  try simp only [Act.put, List.setIfInBounds_toArray, List.set_cons_zero, List.set_cons_succ]
  refine rz_last (i := 15) rfl (by kernel_rfl) (by rfl) (by rfl) (fun K hK => ?_)
  have q1 := KP4.out.frozen 0
  have r1 := KP4.out.cell 0
  simp at r1
  go_simp
  refine hK _ _ ?_; clear hK K q1 r1
  obtain ⟨W5, hW5⟩ : ∃ W5, W5 = W4.setCell ⟨P, 0, none⟩ (.slice A2 (L.length + 1) cap2) := ⟨_, rfl⟩
  have KP5 : Hid (Blk W5 P 77 #[.slice A2 (L.length + 1) cap2, .int .i64 l0, .int .i64 s, .int .i64 l2, .int .i64 l3, p0, .pointer (some ⟨g, 0, none⟩), p2, p3]) := by (show Blk _ _ _ _); rw [hW5]; exact KP4.out.set 0 _
  have F5 : Hid (Frm (fun k => k = P) W4 W5) := by (show Frm _ _ _); rw [hW5]; exact Frm.of_set _ _ _ rfl
  try rw [← hW5]
  clear hW5
  try simp only [Act.put, List.setIfInBounds_toArray, List.set_cons_zero, List.set_cons_succ]
  refine rz_done (by kernel_rfl) ?_ _
  clear z0 z1 z2 z3 z4 z5 y0
  go_wp2_with fail
  try go_ret
  have hqq : ∀ k cs, Blk w k 29 cs ∨ Blk w k 3 cs → ¬ k = P := fun k cs h e => by
    subst e
    rcases h with h | h
    · exact Blk.apart HKPw.out h (by decide) rfl
    · exact Blk.apart HKPw.out h (by decide) rfl
  have hqg : ∀ k cs, Blk w k 29 cs ∨ Blk w k 3 cs → ¬ some k = G := fun k cs h e => by
    obtain ⟨cs', hc⟩ := own_blk HOWNw.out (HG.out.trans e.symm)
    rcases h with h | h
    · exact Blk.apart hc h (by decide) rfl
    · exact Blk.apart hc h (by decide) rfl
  have FA : Frm (Psel P G) w W5 := Frm.tr (EP2.out.mono (fun k hk => Or.inl hk)) (Frm.tr (E4.out.mono (fun k hk => Or.inr hk)) (F5.out.mono (fun k hk => Or.inl hk)))
  have hkeep : ∀ k t cs, t = 29 ∨ t = 3 → Blk w k t cs → Blk W5 k t cs := fun k t cs ht h => h.frm FA (fun hh => by
    rcases ht with rfl | rfl
    · rcases hh with hh | hh
      · exact hqq k cs (.inl h) hh
      · exact hqg k cs (.inl h) hh
    · rcases hh with hh | hh
      · exact hqq k cs (.inr h) hh
      · exact hqg k cs (.inr h) hh)
  have hq5 : ∀ g cs, Blk w g 29 cs → Blk W5 g 29 cs := fun k cs h => hkeep k _ cs (.inl rfl) h
  have hg5 : Blk W5 g 29 #[.int .i64 1, .int .i64 s, .int .i64 k, .int .i64 i, .int .i64 m, .string d] := ((HKQ2.out.frm E4.out hgG).frm F5.out hgne)
  obtain ⟨h40, h41, h42, h43⟩ := HWT.out
  have O5 : W5.ownsRow base 50 14 (.slice A2 (L.length + 1) cap2) (L ++ [At.mk (Ac.mk 1 s false (Rqv.mk 1 s k i m d) Rpv.zero 0) none 0]).length (flatA (L ++ [At.mk (Ac.mk 1 s false (Rqv.mk 1 s k i m d) Rpv.zero 0) none 0])) := by
    rw [flatA_append, List.length_append]
    exact own_frmN O4.out F5.out (fun k hk e => own_blkne O4.out KP4.out (by decide) k hk e)
  refine hD.out _ _ ⟨rfl, _, ⟨HBP.out, .slice A2 (L.length + 1) cap2, l0, s, l2, l3, p0, .pointer (some ⟨g, 0, none⟩), p2, p3, o0, some ⟨1, s, k, i, m, d⟩, o2, o3, L ++ [At.mk (Ac.mk 1 s false (Rqv.mk 1 s k i m d) Rpv.zero 0) none 0], KP5.out, ?_, ?_, ⟨h40.of hq5, ⟨g, rfl, hg5⟩, h42.of hq5, h43.of hq5⟩, O5, rfl, ?_, ?_⟩, FA, ?_⟩
  · show st.last.set 1 s = _
    rw [HLS.out]; rfl
  · show st.wait.set 1 (some ⟨1, s, k, i, m, d⟩) = _
    rw [HWS.out]; rfl
  · rw [List.map_append, HL.out]; rfl
  · intro t ht
    rw [List.mem_append, List.mem_singleton] at ht
    rcases ht with ht | rfl
    · exact (HIN.out t ht).of (fun k cs h => hkeep k _ cs (.inr rfl) h)
    · exact In.nil _
  · rcases BB4.out with h5 | h5
    · exact .inl (h5.trans HG.out)
    · exact .inr ⟨_, h5, Nat.le_trans EaX.out.size (Nat.le_trans (Frm.tr E0f.out (Frm.refl _ _)).size (Nat.le_trans F2.out.size (Nat.le_trans Xe.out.size X3.out.size)))⟩

set_option maxRecDepth 4000 in
set_option maxHeartbeats 8000000 in
theorem ask_wait2 (base P : Nat) (G : Option Nat) (st : Ps) (s k i m : Int) (d : ByteArray) (w : World) (H : PAt w base P G st) (hd : d.size ≤ maxLen) (hm : mayReqB 2 s k i m d.size = true) (hs : ∃ x, st.w 2 = some x) :
    Calls Try.prog 11 #[.pointer (some ⟨P, 0, none⟩), .agg #[.int .i64 2, .int .i64 s, .int .i64 k, .int .i64 i, .int .i64 m, .string d]] w fun e w' => e = .returned (.int .i64 4) ∧ Ext w w' := by
  refine hide_post fun D hD => ?_
  obtain ⟨hbP, v, l0, l1, l2, l3, p0, p1, p2, p3, o0, o1, o2, o3, L, kP, hl, hw, hwt, hown, hG, hL, hin⟩ := H
  obtain ⟨w0, hw0⟩ : ∃ w0, w0 = w.alloc (.cells #[.int .i64 2, .int .i64 s, .int .i64 k, .int .i64 i, .int .i64 m, .string d] 29) := ⟨_, rfl⟩
  have hb0 : Ext w w0 := by rw [hw0]; exact Ext.alloc _ _
  have KQ : Hid (Blk w0 w.heap.size 29 #[.int .i64 2, .int .i64 s, .int .i64 k, .int .i64 i, .int .i64 m, .string d]) := by show Blk _ _ _ _; rw [hw0]; exact Blk.new _ _ _
  have CM : Hid (∀ V, Calls Try.prog 35 #[.agg #[.int .i64 2, .int .i64 s, .int .i64 k, .int .i64 i, .int .i64 m, .string d]] V fun e w' => e = .returned (.bool true) ∧ Ext V w') := fun V => by rw [← hm]; exact mayReq_any 2 s k i m d V hd
  have X0 : Hid (Ext w w0) := hb0
  have HW := Lib.hid hw0
  obtain ⟨x, hx⟩ := hs
  have ho : o2 = some x := by unfold Ps.w at hx; rw [hw] at hx; exact hx
  subst ho
  obtain ⟨gq, rfl, hgq⟩ := hwt.2.2.1
  have y0 : ∀ V, Ext w0 V → V.cell? ⟨P, 0, none⟩ = some (v) := fun V h => (((kP.stay hb0).stay h)).cell 0
  have y3 : ∀ V, Ext w0 V → V.cell? ⟨P, 3, none⟩ = some (.int .i64 l2) := fun V h => (((kP.stay hb0).stay h)).cell 3
  have y7 : ∀ V, Ext w0 V → V.cell? ⟨P, 7, none⟩ = some (.pointer (some ⟨gq, 0, none⟩)) := fun V h => (((kP.stay hb0).stay h)).cell 7
  have z0 : ∀ V, Ext w0 V → V.cell? ⟨w.heap.size, 0, none⟩ = some (.int .i64 2) := fun V h => ((KQ.out.stay h)).cell 0
  have z1 : ∀ V, Ext w0 V → V.cell? ⟨w.heap.size, 1, none⟩ = some (.int .i64 s) := fun V h => ((KQ.out.stay h)).cell 1
  have z2 : ∀ V, Ext w0 V → V.cell? ⟨w.heap.size, 2, none⟩ = some (.int .i64 k) := fun V h => ((KQ.out.stay h)).cell 2
  have z3 : ∀ V, Ext w0 V → V.cell? ⟨w.heap.size, 3, none⟩ = some (.int .i64 i) := fun V h => ((KQ.out.stay h)).cell 3
  have z4 : ∀ V, Ext w0 V → V.cell? ⟨w.heap.size, 4, none⟩ = some (.int .i64 m) := fun V h => ((KQ.out.stay h)).cell 4
  have z5 : ∀ V, Ext w0 V → V.cell? ⟨w.heap.size, 5, none⟩ = some (.string d) := fun V h => ((KQ.out.stay h)).cell 5
  clear hb0 hw0 kP hl hw hwt hown hG hL hin hm hd hx hgq
  go_enter Try.func11, Try.ntmps11
  go_wp2_with (go_at_call 35; rw [← HW.out]; (with_reducible refine (CM.out _).mono ?_); rintro e w1 ⟨rfl, hx⟩; have E1 : Hid (Ext w0 w1) := hx; clear hx)
  refine ext_begin (by kernel_rfl) ?_
  have E1d := Lib.hid (Ext.drewR E1.out)
  refine ext_take (i := 0) (v := ?_) rfl (by kernel_rfl) (by kernel_rfl) (by kernel_rfl) (fun _ _ _ h => h) (by rfl) ?_ ?_
  rotate_left
  · intro W hW; have hW0 := Ext.trans E1d.out hW; clear hW; go_simp <;> with_reducible rfl
  try simp only [Act.put, List.setIfInBounds_toArray, List.set_cons_zero, List.set_cons_succ]
  refine ext_take (i := 1) (v := ?_) rfl (by kernel_rfl) (by kernel_rfl) (by kernel_rfl) (fun _ _ _ h => h) (by rfl) ?_ ?_
  rotate_left
  · intro W hW; have hW0 := Ext.trans E1d.out hW; clear hW; go_simp <;> with_reducible rfl
  try simp only [Act.put, List.setIfInBounds_toArray, List.set_cons_zero, List.set_cons_succ]
  refine ext_take (i := 2) (v := ?_) rfl (by kernel_rfl) (by kernel_rfl) (by kernel_rfl) (fun _ _ _ h => h) (by rfl) ?_ ?_
  rotate_left
  · intro W hW; have hW0 := Ext.trans E1d.out hW; clear hW; go_simp <;> with_reducible rfl
  try simp only [Act.put, List.setIfInBounds_toArray, List.set_cons_zero, List.set_cons_succ]
  refine ext_take (i := 3) (v := ?_) rfl (by kernel_rfl) (by kernel_rfl) (by kernel_rfl) (fun _ _ _ h => h) (by rfl) ?_ ?_
  rotate_left
  · intro W hW; have hW0 := Ext.trans E1d.out hW; clear hW; go_simp <;> with_reducible rfl
  try simp only [Act.put, List.setIfInBounds_toArray, List.set_cons_zero, List.set_cons_succ]
  refine ext_take (i := 4) (v := ?_) rfl (by kernel_rfl) (by kernel_rfl) (by kernel_rfl) (fun _ _ _ h => h) (by rfl) ?_ ?_
  rotate_left
  · intro W hW; have hW0 := Ext.trans E1d.out hW; clear hW; go_simp <;> with_reducible rfl
  try simp only [Act.put, List.setIfInBounds_toArray, List.set_cons_zero, List.set_cons_succ]
  refine ext_take (i := 5) (v := ?_) rfl (by kernel_rfl) (by kernel_rfl) (by kernel_rfl) (fun _ _ _ h => h) (by rfl) ?_ ?_
  rotate_left
  · intro W hW; have hW0 := Ext.trans E1d.out hW; clear hW; go_simp <;> with_reducible rfl
  try simp only [Act.put, List.setIfInBounds_toArray, List.set_cons_zero, List.set_cons_succ]
  refine ext_take (i := 6) (v := ?_) rfl (by kernel_rfl) (by kernel_rfl) (by kernel_rfl) (fun _ _ _ h => h) (by rfl) ?_ ?_
  rotate_left
  · intro W hW; have hW0 := Ext.trans E1d.out hW; clear hW; go_simp <;> with_reducible rfl
  try simp only [Act.put, List.setIfInBounds_toArray, List.set_cons_zero, List.set_cons_succ]
  refine ext_take (i := 7) (v := ?_) rfl (by kernel_rfl) (by kernel_rfl) (by kernel_rfl) (fun _ _ _ h => h) (by rfl) ?_ ?_
  rotate_left
  · intro W hW; have hW0 := Ext.trans E1d.out hW; clear hW; go_simp <;> with_reducible rfl
  try simp only [Act.put, List.setIfInBounds_toArray, List.set_cons_zero, List.set_cons_succ]
  refine ext_take (i := 8) (v := ?_) rfl (by kernel_rfl) (by kernel_rfl) (by kernel_rfl) (fun _ _ _ h => h) (by rfl) ?_ ?_
  rotate_left
  · intro W hW; have hW0 := Ext.trans E1d.out hW; clear hW; go_simp <;> with_reducible rfl
  try simp only [Act.put, List.setIfInBounds_toArray, List.set_cons_zero, List.set_cons_succ]
  refine wpAnyH_done (by kernel_rfl) ?_ _
  have EX := Lib.hid E1d.out
  clear E1d
  try go_wp2_with fail
  try go_ret
  exact hD.out _ _ ⟨rfl, Ext.trans X0.out EX.out⟩

set_option maxRecDepth 4000 in
set_option maxHeartbeats 8000000 in
theorem ask_old2 (base P : Nat) (G : Option Nat) (st : Ps) (s k i m : Int) (d : ByteArray) (w : World) (H : PAt w base P G st) (hd : d.size ≤ maxLen) (hm : mayReqB 2 s k i m d.size = true) (hs : st.w 2 = none) (ht : s ≤ st.la 2) :
    Calls Try.prog 11 #[.pointer (some ⟨P, 0, none⟩), .agg #[.int .i64 2, .int .i64 s, .int .i64 k, .int .i64 i, .int .i64 m, .string d]] w fun e w' => e = .returned (.int .i64 9) ∧ Ext w w' := by
  refine hide_post fun D hD => ?_
  obtain ⟨hbP, v, l0, l1, l2, l3, p0, p1, p2, p3, o0, o1, o2, o3, L, kP, hl, hw, hwt, hown, hG, hL, hin⟩ := H
  obtain ⟨w0, hw0⟩ : ∃ w0, w0 = w.alloc (.cells #[.int .i64 2, .int .i64 s, .int .i64 k, .int .i64 i, .int .i64 m, .string d] 29) := ⟨_, rfl⟩
  have hb0 : Ext w w0 := by rw [hw0]; exact Ext.alloc _ _
  have KQ : Hid (Blk w0 w.heap.size 29 #[.int .i64 2, .int .i64 s, .int .i64 k, .int .i64 i, .int .i64 m, .string d]) := by show Blk _ _ _ _; rw [hw0]; exact Blk.new _ _ _
  have CM : Hid (∀ V, Calls Try.prog 35 #[.agg #[.int .i64 2, .int .i64 s, .int .i64 k, .int .i64 i, .int .i64 m, .string d]] V fun e w' => e = .returned (.bool true) ∧ Ext V w') := fun V => by rw [← hm]; exact mayReq_any 2 s k i m d V hd
  have X0 : Hid (Ext w w0) := hb0
  have HW := Lib.hid hw0
  have ho : o2 = none := by unfold Ps.w at hs; rw [hw] at hs; exact hs
  have hlc : l2 = st.la 2 := by unfold Ps.la; rw [hl]; rfl
  obtain rfl : p2 = .pointer none := by have h5 := hwt.2.2.1; rw [ho] at h5; exact h5
  rw [← hlc] at ht
  have CW : Hid (∀ V, Calls Try.prog 36 #[.agg #[.int .i64 2, .int .i64 s, .int .i64 k, .int .i64 i, .int .i64 m, .string d], .int .i64 l2] V fun e w' => e = .returned (.bool false) ∧ Ext V w') := fun V => by
    have h5 := newer_any 2 s k i m d l2 V hd
    rw [hm, Bool.true_and, decide_eq_false (by omega)] at h5
    exact h5
  have y0 : ∀ V, Ext w0 V → V.cell? ⟨P, 0, none⟩ = some (v) := fun V h => (((kP.stay hb0).stay h)).cell 0
  have y3 : ∀ V, Ext w0 V → V.cell? ⟨P, 3, none⟩ = some (.int .i64 l2) := fun V h => (((kP.stay hb0).stay h)).cell 3
  have y7 : ∀ V, Ext w0 V → V.cell? ⟨P, 7, none⟩ = some (.pointer none) := fun V h => (((kP.stay hb0).stay h)).cell 7
  have z0 : ∀ V, Ext w0 V → V.cell? ⟨w.heap.size, 0, none⟩ = some (.int .i64 2) := fun V h => ((KQ.out.stay h)).cell 0
  have z1 : ∀ V, Ext w0 V → V.cell? ⟨w.heap.size, 1, none⟩ = some (.int .i64 s) := fun V h => ((KQ.out.stay h)).cell 1
  have z2 : ∀ V, Ext w0 V → V.cell? ⟨w.heap.size, 2, none⟩ = some (.int .i64 k) := fun V h => ((KQ.out.stay h)).cell 2
  have z3 : ∀ V, Ext w0 V → V.cell? ⟨w.heap.size, 3, none⟩ = some (.int .i64 i) := fun V h => ((KQ.out.stay h)).cell 3
  have z4 : ∀ V, Ext w0 V → V.cell? ⟨w.heap.size, 4, none⟩ = some (.int .i64 m) := fun V h => ((KQ.out.stay h)).cell 4
  have z5 : ∀ V, Ext w0 V → V.cell? ⟨w.heap.size, 5, none⟩ = some (.string d) := fun V h => ((KQ.out.stay h)).cell 5
  clear hb0 hw0 kP hl hw hwt hown hG hL hin hm hd hs ht ho hlc
  go_enter Try.func11, Try.ntmps11
  go_wp2_with (go_at_call 35; rw [← HW.out]; (with_reducible refine (CM.out _).mono ?_); rintro e w1 ⟨rfl, hx⟩; have E1 : Hid (Ext w0 w1) := hx; clear hx)
  refine ext_begin (by kernel_rfl) ?_
  have E1d := Lib.hid (Ext.drewR E1.out)
  refine ext_take (i := 0) (v := ?_) rfl (by kernel_rfl) (by kernel_rfl) (by kernel_rfl) (fun _ _ _ h => h) (by rfl) ?_ ?_
  rotate_left
  · intro W hW; have hW0 := Ext.trans E1d.out hW; clear hW; go_simp <;> with_reducible rfl
  try simp only [Act.put, List.setIfInBounds_toArray, List.set_cons_zero, List.set_cons_succ]
  refine ext_take (i := 1) (v := ?_) rfl (by kernel_rfl) (by kernel_rfl) (by kernel_rfl) (fun _ _ _ h => h) (by rfl) ?_ ?_
  rotate_left
  · intro W hW; have hW0 := Ext.trans E1d.out hW; clear hW; go_simp <;> with_reducible rfl
  try simp only [Act.put, List.setIfInBounds_toArray, List.set_cons_zero, List.set_cons_succ]
  refine ext_take (i := 2) (v := ?_) rfl (by kernel_rfl) (by kernel_rfl) (by kernel_rfl) (fun _ _ _ h => h) (by rfl) ?_ ?_
  rotate_left
  · intro W hW; have hW0 := Ext.trans E1d.out hW; clear hW; go_simp <;> with_reducible rfl
  try simp only [Act.put, List.setIfInBounds_toArray, List.set_cons_zero, List.set_cons_succ]
  refine ext_take (i := 3) (v := ?_) rfl (by kernel_rfl) (by kernel_rfl) (by kernel_rfl) (fun _ _ _ h => h) (by rfl) ?_ ?_
  rotate_left
  · intro W hW; have hW0 := Ext.trans E1d.out hW; clear hW; go_simp <;> with_reducible rfl
  try simp only [Act.put, List.setIfInBounds_toArray, List.set_cons_zero, List.set_cons_succ]
  refine ext_take (i := 4) (v := ?_) rfl (by kernel_rfl) (by kernel_rfl) (by kernel_rfl) (fun _ _ _ h => h) (by rfl) ?_ ?_
  rotate_left
  · intro W hW; have hW0 := Ext.trans E1d.out hW; clear hW; go_simp <;> with_reducible rfl
  try simp only [Act.put, List.setIfInBounds_toArray, List.set_cons_zero, List.set_cons_succ]
  refine ext_take (i := 5) (v := ?_) rfl (by kernel_rfl) (by kernel_rfl) (by kernel_rfl) (fun _ _ _ h => h) (by rfl) ?_ ?_
  rotate_left
  · intro W hW; have hW0 := Ext.trans E1d.out hW; clear hW; go_simp <;> with_reducible rfl
  try simp only [Act.put, List.setIfInBounds_toArray, List.set_cons_zero, List.set_cons_succ]
  refine ext_take (i := 6) (v := ?_) rfl (by kernel_rfl) (by kernel_rfl) (by kernel_rfl) (fun _ _ _ h => h) (by rfl) ?_ ?_
  rotate_left
  · intro W hW; have hW0 := Ext.trans E1d.out hW; clear hW; go_simp <;> with_reducible rfl
  try simp only [Act.put, List.setIfInBounds_toArray, List.set_cons_zero, List.set_cons_succ]
  refine ext_take (i := 7) (v := ?_) rfl (by kernel_rfl) (by kernel_rfl) (by kernel_rfl) (fun _ _ _ h => h) (by rfl) ?_ ?_
  rotate_left
  · intro W hW; have hW0 := Ext.trans E1d.out hW; clear hW; go_simp <;> with_reducible rfl
  try simp only [Act.put, List.setIfInBounds_toArray, List.set_cons_zero, List.set_cons_succ]
  refine ext_take (i := 8) (v := ?_) rfl (by kernel_rfl) (by kernel_rfl) (by kernel_rfl) (fun _ _ _ h => h) (by rfl) ?_ ?_
  rotate_left
  · intro W hW; have hW0 := Ext.trans E1d.out hW; clear hW; go_simp <;> with_reducible rfl
  try simp only [Act.put, List.setIfInBounds_toArray, List.set_cons_zero, List.set_cons_succ]
  refine wpAnyH_done (by kernel_rfl) ?_ _
  try go_wp2_with fail
  refine ext_begin (by kernel_rfl) ?_
  have E1dd := Lib.hid (Ext.drewR E1d.out)
  refine ext_take (i := 0) (v := ?_) rfl (by kernel_rfl) (by kernel_rfl) (by kernel_rfl) (fun _ _ _ h => h) (by rfl) ?_ ?_
  rotate_left
  · intro W hW; have hW0 := Ext.trans E1dd.out hW; clear hW; go_simp <;> with_reducible rfl
  try simp only [Act.put, List.setIfInBounds_toArray, List.set_cons_zero, List.set_cons_succ]
  refine ext_take (i := 1) (v := ?_) rfl (by kernel_rfl) (by kernel_rfl) (by kernel_rfl) (fun _ _ _ h => h) (by rfl) ?_ ?_
  rotate_left
  · intro W hW; have hW0 := Ext.trans E1dd.out hW; clear hW; go_simp <;> with_reducible rfl
  try simp only [Act.put, List.setIfInBounds_toArray, List.set_cons_zero, List.set_cons_succ]
  refine ext_take (i := 2) (v := ?_) rfl (by kernel_rfl) (by kernel_rfl) (by kernel_rfl) (fun _ _ _ h => h) (by rfl) ?_ ?_
  rotate_left
  · intro W hW; have hW0 := Ext.trans E1dd.out hW; clear hW; go_simp <;> with_reducible rfl
  try simp only [Act.put, List.setIfInBounds_toArray, List.set_cons_zero, List.set_cons_succ]
  refine ext_take (i := 3) (v := ?_) rfl (by kernel_rfl) (by kernel_rfl) (by kernel_rfl) (fun _ _ _ h => h) (by rfl) ?_ ?_
  rotate_left
  · intro W hW; have hW0 := Ext.trans E1dd.out hW; clear hW; go_simp <;> with_reducible rfl
  try simp only [Act.put, List.setIfInBounds_toArray, List.set_cons_zero, List.set_cons_succ]
  refine ext_take (i := 4) (v := ?_) rfl (by kernel_rfl) (by kernel_rfl) (by kernel_rfl) (fun _ _ _ h => h) (by rfl) ?_ ?_
  rotate_left
  · intro W hW; have hW0 := Ext.trans E1dd.out hW; clear hW; go_simp <;> with_reducible rfl
  try simp only [Act.put, List.setIfInBounds_toArray, List.set_cons_zero, List.set_cons_succ]
  refine ext_take (i := 5) (v := ?_) rfl (by kernel_rfl) (by kernel_rfl) (by kernel_rfl) (fun _ _ _ h => h) (by rfl) ?_ ?_
  rotate_left
  · intro W hW; have hW0 := Ext.trans E1dd.out hW; clear hW; go_simp <;> with_reducible rfl
  try simp only [Act.put, List.setIfInBounds_toArray, List.set_cons_zero, List.set_cons_succ]
  refine ext_take (i := 6) (v := ?_) rfl (by kernel_rfl) (by kernel_rfl) (by kernel_rfl) (fun _ _ _ h => h) (by rfl) ?_ ?_
  rotate_left
  · intro W hW; have hW0 := Ext.trans E1dd.out hW; clear hW; go_simp <;> with_reducible rfl
  try simp only [Act.put, List.setIfInBounds_toArray, List.set_cons_zero, List.set_cons_succ]
  refine ext_take (i := 7) (v := ?_) rfl (by kernel_rfl) (by kernel_rfl) (by kernel_rfl) (fun _ _ _ h => h) (by rfl) ?_ ?_
  rotate_left
  · intro W hW; have hW0 := Ext.trans E1dd.out hW; clear hW; go_simp <;> with_reducible rfl
  try simp only [Act.put, List.setIfInBounds_toArray, List.set_cons_zero, List.set_cons_succ]
  refine ext_call (i := 8) rfl (by kernel_rfl) (by rfl) (fun K' hK => ?_)
  go_simp
  (go_at_call 36; (with_reducible refine (CW.out _).mono ?_); rintro e w2 ⟨rfl, hx⟩; refine hK _ _ hx ?_; clear hK)
  have Ew2 := Lib.hid (Ext.trans E1dd.out hx)
  clear hx
  try simp only [Act.put, List.setIfInBounds_toArray, List.set_cons_zero, List.set_cons_succ]
  refine ext_take (i := 9) (v := ?_) rfl (by kernel_rfl) (by kernel_rfl) (by kernel_rfl) (fun _ _ _ h => h) (by rfl) ?_ ?_
  rotate_left
  · intro W hW; have hW0 := Ext.trans Ew2.out hW; clear hW; go_simp <;> with_reducible rfl
  try simp only [Act.put, List.setIfInBounds_toArray, List.set_cons_zero, List.set_cons_succ]
  refine ext_take (i := 10) (v := ?_) rfl (by kernel_rfl) (by kernel_rfl) (by kernel_rfl) (fun _ _ _ h => h) (by rfl) ?_ ?_
  rotate_left
  · intro W hW; have hW0 := Ext.trans Ew2.out hW; clear hW; go_simp <;> with_reducible rfl
  try simp only [Act.put, List.setIfInBounds_toArray, List.set_cons_zero, List.set_cons_succ]
  refine wpAnyH_done (by kernel_rfl) ?_ _
  have EX := Lib.hid Ew2.out
  clear E1d Ew2
  try go_wp2_with fail
  try go_ret
  exact hD.out _ _ ⟨rfl, Ext.trans X0.out EX.out⟩

set_option maxRecDepth 4000 in
set_option maxHeartbeats 8000000 in
theorem ask_ok2 (base P : Nat) (G : Option Nat) (st : Ps) (s k i m : Int) (d : ByteArray) (w : World) (H : PAt w base P G st) (hd : d.size ≤ maxLen) (hm : mayReqB 2 s k i m d.size = true) (hs : st.w 2 = none) (ht : st.la 2 < s) (hn : st.acts.length ≤ 1000000) :
    Calls Try.prog 11 #[.pointer (some ⟨P, 0, none⟩), .agg #[.int .i64 2, .int .i64 s, .int .i64 k, .int .i64 i, .int .i64 m, .string d]] w fun e w' => e = .returned (.int .i64 0) ∧ POut w w' base P G (askS st ⟨2, s, k, i, m, d⟩) := by
  refine hide_post fun D hD => ?_
  have hsel := H.sel
  have hlt := H.lt
  obtain ⟨hbP, v, l0, l1, l2, l3, p0, p1, p2, p3, o0, o1, o2, o3, L, kP, hl, hw, hwt, hown, hG, hL, hin⟩ := H
  obtain ⟨w0, hw0⟩ : ∃ w0, w0 = w.alloc (.cells #[.int .i64 2, .int .i64 s, .int .i64 k, .int .i64 i, .int .i64 m, .string d] 29) := ⟨_, rfl⟩
  have hb0 : Ext w w0 := by rw [hw0]; exact Ext.alloc _ _
  have KQ : Hid (Blk w0 w.heap.size 29 #[.int .i64 2, .int .i64 s, .int .i64 k, .int .i64 i, .int .i64 m, .string d]) := by show Blk _ _ _ _; rw [hw0]; exact Blk.new _ _ _
  have CM : Hid (∀ V, Calls Try.prog 35 #[.agg #[.int .i64 2, .int .i64 s, .int .i64 k, .int .i64 i, .int .i64 m, .string d]] V fun e w' => e = .returned (.bool true) ∧ Ext V w') := fun V => by rw [← hm]; exact mayReq_any 2 s k i m d V hd
  have X0 : Hid (Ext w w0) := hb0
  have HW := Lib.hid hw0
  have ho : o2 = none := by unfold Ps.w at hs; rw [hw] at hs; exact hs
  have hlc : l2 = st.la 2 := by unfold Ps.la; rw [hl]; rfl
  obtain rfl : p2 = .pointer none := by have h5 := hwt.2.2.1; rw [ho] at h5; exact h5
  rw [← hlc] at ht
  have CW : Hid (∀ V, Calls Try.prog 36 #[.agg #[.int .i64 2, .int .i64 s, .int .i64 k, .int .i64 i, .int .i64 m, .string d], .int .i64 l2] V fun e w' => e = .returned (.bool true) ∧ Ext V w') := fun V => by
    have h5 := newer_any 2 s k i m d l2 V hd
    rw [hm, Bool.true_and, decide_eq_true ht] at h5
    exact h5
  have y0 : ∀ V, Ext w0 V → V.cell? ⟨P, 0, none⟩ = some (v) := fun V h => (((kP.stay hb0).stay h)).cell 0
  have y3 : ∀ V, Ext w0 V → V.cell? ⟨P, 3, none⟩ = some (.int .i64 l2) := fun V h => (((kP.stay hb0).stay h)).cell 3
  have y7 : ∀ V, Ext w0 V → V.cell? ⟨P, 7, none⟩ = some (.pointer none) := fun V h => (((kP.stay hb0).stay h)).cell 7
  have z0 : ∀ V, Ext w0 V → V.cell? ⟨w.heap.size, 0, none⟩ = some (.int .i64 2) := fun V h => ((KQ.out.stay h)).cell 0
  have z1 : ∀ V, Ext w0 V → V.cell? ⟨w.heap.size, 1, none⟩ = some (.int .i64 s) := fun V h => ((KQ.out.stay h)).cell 1
  have z2 : ∀ V, Ext w0 V → V.cell? ⟨w.heap.size, 2, none⟩ = some (.int .i64 k) := fun V h => ((KQ.out.stay h)).cell 2
  have z3 : ∀ V, Ext w0 V → V.cell? ⟨w.heap.size, 3, none⟩ = some (.int .i64 i) := fun V h => ((KQ.out.stay h)).cell 3
  have z4 : ∀ V, Ext w0 V → V.cell? ⟨w.heap.size, 4, none⟩ = some (.int .i64 m) := fun V h => ((KQ.out.stay h)).cell 4
  have z5 : ∀ V, Ext w0 V → V.cell? ⟨w.heap.size, 5, none⟩ = some (.string d) := fun V h => ((KQ.out.stay h)).cell 5
  have hLn : L.length ≤ 1000000000 := by have h5 := congrArg List.length hL; rw [List.length_map] at h5; omega
  have HLN : Hid (L.length ≤ 1000000000) := hLn
  have HKP := Lib.hid (kP.stay hb0)
  have HKPw := Lib.hid kP
  have HOWNw := Lib.hid hown
  have HWT := Lib.hid hwt
  have HOWN := Lib.hid hown
  have HG : Hid (v.ownBlock = G) := hG
  have HL := Lib.hid hL
  have HIN := Lib.hid hin
  have HBP : Hid (base ≤ P) := hbP
  have HBS : Hid (base ≤ w.heap.size) := Nat.le_trans hbP (Nat.le_of_lt hlt)
  have HLT : Hid (P < w.heap.size) := hlt
  have HLS := Lib.hid hl
  have HWS := Lib.hid hw
  have HNP : Hid (¬ some P = G) := fun e => by
    obtain ⟨cs, hc⟩ := own_blk hown (hG.trans e.symm)
    exact Blk.apart kP hc (by decide) rfl
  clear hb0 hw0 kP hl hw hwt hown hG hL hin hm hd hs ht ho hlc hlt hsel hbP hLn
  obtain ⟨g, hg⟩ : ∃ g, g = w.heap.size := ⟨_, rfl⟩
  have HGG := Lib.hid hg
  rw [← hg] at KQ z0 z1 z2 z3 z4 z5
  go_enter Try.func11, Try.ntmps11
  go_wp2_with (go_at_call 35; rw [← HW.out]; (with_reducible refine (CM.out _).mono ?_); rintro e w1 ⟨rfl, hx⟩; have E1 : Hid (Ext w0 w1) := hx; clear hx)
  rw [← HGG.out]
  clear hg
  refine ext_begin (by kernel_rfl) ?_
  have E1d := Lib.hid (Ext.drewR E1.out)
  refine ext_take (i := 0) (v := ?_) rfl (by kernel_rfl) (by kernel_rfl) (by kernel_rfl) (fun _ _ _ h => h) (by rfl) ?_ ?_
  rotate_left
  · intro W hW; have hW0 := Ext.trans E1d.out hW; clear hW; go_simp <;> with_reducible rfl
  try simp only [Act.put, List.setIfInBounds_toArray, List.set_cons_zero, List.set_cons_succ]
  refine ext_take (i := 1) (v := ?_) rfl (by kernel_rfl) (by kernel_rfl) (by kernel_rfl) (fun _ _ _ h => h) (by rfl) ?_ ?_
  rotate_left
  · intro W hW; have hW0 := Ext.trans E1d.out hW; clear hW; go_simp <;> with_reducible rfl
  try simp only [Act.put, List.setIfInBounds_toArray, List.set_cons_zero, List.set_cons_succ]
  refine ext_take (i := 2) (v := ?_) rfl (by kernel_rfl) (by kernel_rfl) (by kernel_rfl) (fun _ _ _ h => h) (by rfl) ?_ ?_
  rotate_left
  · intro W hW; have hW0 := Ext.trans E1d.out hW; clear hW; go_simp <;> with_reducible rfl
  try simp only [Act.put, List.setIfInBounds_toArray, List.set_cons_zero, List.set_cons_succ]
  refine ext_take (i := 3) (v := ?_) rfl (by kernel_rfl) (by kernel_rfl) (by kernel_rfl) (fun _ _ _ h => h) (by rfl) ?_ ?_
  rotate_left
  · intro W hW; have hW0 := Ext.trans E1d.out hW; clear hW; go_simp <;> with_reducible rfl
  try simp only [Act.put, List.setIfInBounds_toArray, List.set_cons_zero, List.set_cons_succ]
  refine ext_take (i := 4) (v := ?_) rfl (by kernel_rfl) (by kernel_rfl) (by kernel_rfl) (fun _ _ _ h => h) (by rfl) ?_ ?_
  rotate_left
  · intro W hW; have hW0 := Ext.trans E1d.out hW; clear hW; go_simp <;> with_reducible rfl
  try simp only [Act.put, List.setIfInBounds_toArray, List.set_cons_zero, List.set_cons_succ]
  refine ext_take (i := 5) (v := ?_) rfl (by kernel_rfl) (by kernel_rfl) (by kernel_rfl) (fun _ _ _ h => h) (by rfl) ?_ ?_
  rotate_left
  · intro W hW; have hW0 := Ext.trans E1d.out hW; clear hW; go_simp <;> with_reducible rfl
  try simp only [Act.put, List.setIfInBounds_toArray, List.set_cons_zero, List.set_cons_succ]
  refine ext_take (i := 6) (v := ?_) rfl (by kernel_rfl) (by kernel_rfl) (by kernel_rfl) (fun _ _ _ h => h) (by rfl) ?_ ?_
  rotate_left
  · intro W hW; have hW0 := Ext.trans E1d.out hW; clear hW; go_simp <;> with_reducible rfl
  try simp only [Act.put, List.setIfInBounds_toArray, List.set_cons_zero, List.set_cons_succ]
  refine ext_take (i := 7) (v := ?_) rfl (by kernel_rfl) (by kernel_rfl) (by kernel_rfl) (fun _ _ _ h => h) (by rfl) ?_ ?_
  rotate_left
  · intro W hW; have hW0 := Ext.trans E1d.out hW; clear hW; go_simp <;> with_reducible rfl
  try simp only [Act.put, List.setIfInBounds_toArray, List.set_cons_zero, List.set_cons_succ]
  refine ext_take (i := 8) (v := ?_) rfl (by kernel_rfl) (by kernel_rfl) (by kernel_rfl) (fun _ _ _ h => h) (by rfl) ?_ ?_
  rotate_left
  · intro W hW; have hW0 := Ext.trans E1d.out hW; clear hW; go_simp <;> with_reducible rfl
  try simp only [Act.put, List.setIfInBounds_toArray, List.set_cons_zero, List.set_cons_succ]
  refine wpAnyH_done (by kernel_rfl) ?_ _
  try go_wp2_with fail
  refine ext_begin (by kernel_rfl) ?_
  have E1dd := Lib.hid (Ext.drewR E1d.out)
  refine ext_take (i := 0) (v := ?_) rfl (by kernel_rfl) (by kernel_rfl) (by kernel_rfl) (fun _ _ _ h => h) (by rfl) ?_ ?_
  rotate_left
  · intro W hW; have hW0 := Ext.trans E1dd.out hW; clear hW; go_simp <;> with_reducible rfl
  try simp only [Act.put, List.setIfInBounds_toArray, List.set_cons_zero, List.set_cons_succ]
  refine ext_take (i := 1) (v := ?_) rfl (by kernel_rfl) (by kernel_rfl) (by kernel_rfl) (fun _ _ _ h => h) (by rfl) ?_ ?_
  rotate_left
  · intro W hW; have hW0 := Ext.trans E1dd.out hW; clear hW; go_simp <;> with_reducible rfl
  try simp only [Act.put, List.setIfInBounds_toArray, List.set_cons_zero, List.set_cons_succ]
  refine ext_take (i := 2) (v := ?_) rfl (by kernel_rfl) (by kernel_rfl) (by kernel_rfl) (fun _ _ _ h => h) (by rfl) ?_ ?_
  rotate_left
  · intro W hW; have hW0 := Ext.trans E1dd.out hW; clear hW; go_simp <;> with_reducible rfl
  try simp only [Act.put, List.setIfInBounds_toArray, List.set_cons_zero, List.set_cons_succ]
  refine ext_take (i := 3) (v := ?_) rfl (by kernel_rfl) (by kernel_rfl) (by kernel_rfl) (fun _ _ _ h => h) (by rfl) ?_ ?_
  rotate_left
  · intro W hW; have hW0 := Ext.trans E1dd.out hW; clear hW; go_simp <;> with_reducible rfl
  try simp only [Act.put, List.setIfInBounds_toArray, List.set_cons_zero, List.set_cons_succ]
  refine ext_take (i := 4) (v := ?_) rfl (by kernel_rfl) (by kernel_rfl) (by kernel_rfl) (fun _ _ _ h => h) (by rfl) ?_ ?_
  rotate_left
  · intro W hW; have hW0 := Ext.trans E1dd.out hW; clear hW; go_simp <;> with_reducible rfl
  try simp only [Act.put, List.setIfInBounds_toArray, List.set_cons_zero, List.set_cons_succ]
  refine ext_take (i := 5) (v := ?_) rfl (by kernel_rfl) (by kernel_rfl) (by kernel_rfl) (fun _ _ _ h => h) (by rfl) ?_ ?_
  rotate_left
  · intro W hW; have hW0 := Ext.trans E1dd.out hW; clear hW; go_simp <;> with_reducible rfl
  try simp only [Act.put, List.setIfInBounds_toArray, List.set_cons_zero, List.set_cons_succ]
  refine ext_take (i := 6) (v := ?_) rfl (by kernel_rfl) (by kernel_rfl) (by kernel_rfl) (fun _ _ _ h => h) (by rfl) ?_ ?_
  rotate_left
  · intro W hW; have hW0 := Ext.trans E1dd.out hW; clear hW; go_simp <;> with_reducible rfl
  try simp only [Act.put, List.setIfInBounds_toArray, List.set_cons_zero, List.set_cons_succ]
  refine ext_take (i := 7) (v := ?_) rfl (by kernel_rfl) (by kernel_rfl) (by kernel_rfl) (fun _ _ _ h => h) (by rfl) ?_ ?_
  rotate_left
  · intro W hW; have hW0 := Ext.trans E1dd.out hW; clear hW; go_simp <;> with_reducible rfl
  try simp only [Act.put, List.setIfInBounds_toArray, List.set_cons_zero, List.set_cons_succ]
  refine ext_call (i := 8) rfl (by kernel_rfl) (by rfl) (fun K' hK => ?_)
  go_simp
  (go_at_call 36; (with_reducible refine (CW.out _).mono ?_); rintro e w2 ⟨rfl, hx⟩; refine hK _ _ hx ?_; clear hK)
  have Ew2 := Lib.hid (Ext.trans E1dd.out hx)
  clear hx
  try simp only [Act.put, List.setIfInBounds_toArray, List.set_cons_zero, List.set_cons_succ]
  refine ext_take (i := 9) (v := ?_) rfl (by kernel_rfl) (by kernel_rfl) (by kernel_rfl) (fun _ _ _ h => h) (by rfl) ?_ ?_
  rotate_left
  · intro W hW; have hW0 := Ext.trans Ew2.out hW; clear hW; go_simp <;> with_reducible rfl
  try simp only [Act.put, List.setIfInBounds_toArray, List.set_cons_zero, List.set_cons_succ]
  refine ext_take (i := 10) (v := ?_) rfl (by kernel_rfl) (by kernel_rfl) (by kernel_rfl) (fun _ _ _ h => h) (by rfl) ?_ ?_
  rotate_left
  · intro W hW; have hW0 := Ext.trans Ew2.out hW; clear hW; go_simp <;> with_reducible rfl
  try simp only [Act.put, List.setIfInBounds_toArray, List.set_cons_zero, List.set_cons_succ]
  refine wpAnyH_done (by kernel_rfl) ?_ _
  try go_wp2_with fail
  obtain ⟨Wa, hWa⟩ : ∃ Wa, Wa = w2 := ⟨_, rfl⟩
  rw [← hWa] at Ew2 ⊢
  clear hWa
  have HKQa := Lib.hid (KQ.out.stay Ew2.out)
  have KPa := Lib.hid (HKP.out.stay Ew2.out)
  have hgne : ¬ g = P := by have h1 := HGG.out; have h2 := HLT.out; omega
  have KP : Hid (Blk Wa.drew P 77 #[v, .int .i64 l0, .int .i64 l1, .int .i64 l2, .int .i64 l3, p0, p1, .pointer none, p3]) := KPa.out.drew
  have E0f : Hid (Frm (fun k => k = P) Wa Wa.drew) := (Frm.refl _ _).drew
  have EaX : Hid (Ext w Wa) := Ext.trans X0.out Ew2.out
  clear y0 y3 y7 z0 z1 z2 z3 z4 z5 E1d
  have z0 : ∀ V, Frm (fun k => k = P) Wa V → V.cell? ⟨g, 0, none⟩ = some (.int .i64 2) := fun V h => ((HKQa.out.frm h hgne)).cell 0
  have z1 : ∀ V, Frm (fun k => k = P) Wa V → V.cell? ⟨g, 1, none⟩ = some (.int .i64 s) := fun V h => ((HKQa.out.frm h hgne)).cell 1
  have z2 : ∀ V, Frm (fun k => k = P) Wa V → V.cell? ⟨g, 2, none⟩ = some (.int .i64 k) := fun V h => ((HKQa.out.frm h hgne)).cell 2
  have z3 : ∀ V, Frm (fun k => k = P) Wa V → V.cell? ⟨g, 3, none⟩ = some (.int .i64 i) := fun V h => ((HKQa.out.frm h hgne)).cell 3
  have z4 : ∀ V, Frm (fun k => k = P) Wa V → V.cell? ⟨g, 4, none⟩ = some (.int .i64 m) := fun V h => ((HKQa.out.frm h hgne)).cell 4
  have z5 : ∀ V, Frm (fun k => k = P) Wa V → V.cell? ⟨g, 5, none⟩ = some (.string d) := fun V h => ((HKQa.out.frm h hgne)).cell 5
  refine rz_begin (fun k => k = P) [] (by kernel_rfl) ?_
  refine rz_take [8, 9, 10, 11, 14, 15] (i := 0) (v := ?_) rfl (by kernel_rfl) (by kernel_rfl) (by kernel_rfl) (by kernel_rfl) (by kernel_rfl) (by kernel_rfl) (fun _ _ _ h => h) (by rfl) ?_ ?_
  rotate_left
  · intro W hW; have hW0 := Frm.tr E0f.out hW; clear hW; go_simp <;> with_reducible rfl
  try simp only [Act.put, List.setIfInBounds_toArray, List.set_cons_zero, List.set_cons_succ]
  refine rz_take [2, 10, 11, 14, 15] (i := 1) (v := ?_) rfl (by kernel_rfl) (by kernel_rfl) (by kernel_rfl) (by kernel_rfl) (by kernel_rfl) (by kernel_rfl) (fun _ _ _ h => h) (by rfl) ?_ ?_
  rotate_left
  · intro W hW; have hW0 := Frm.tr E0f.out hW; clear hW; go_simp <;> with_reducible rfl
  try simp only [Act.put, List.setIfInBounds_toArray, List.set_cons_zero, List.set_cons_succ]
  refine rz_take [10, 11, 14, 15] (i := 2) (v := ?_) rfl (by kernel_rfl) (by kernel_rfl) (by kernel_rfl) (by kernel_rfl) (by kernel_rfl) (by kernel_rfl) (fun _ _ _ h => h) (by rfl) ?_ ?_
  rotate_left
  · intro W hW; have hW0 := Frm.tr E0f.out hW; clear hW; go_simp <;> with_reducible rfl
  try simp only [Act.put, List.setIfInBounds_toArray, List.set_cons_zero, List.set_cons_succ]
  refine rz_take [12, 13, 14, 15] (i := 3) (v := ?_) rfl (by kernel_rfl) (by kernel_rfl) (by kernel_rfl) (by kernel_rfl) (by kernel_rfl) (by kernel_rfl) (fun _ _ _ h => h) (by rfl) ?_ ?_
  rotate_left
  · intro W hW; have hW0 := Frm.tr E0f.out hW; clear hW; go_simp <;> with_reducible rfl
  try simp only [Act.put, List.setIfInBounds_toArray, List.set_cons_zero, List.set_cons_succ]
  refine rz_take [5, 10, 11, 14, 15] (i := 4) (v := ?_) rfl (by kernel_rfl) (by kernel_rfl) (by kernel_rfl) (by kernel_rfl) (by kernel_rfl) (by kernel_rfl) (fun _ _ _ h => h) (by rfl) ?_ ?_
  rotate_left
  · intro W hW; have hW0 := Frm.tr E0f.out hW; clear hW; go_simp <;> with_reducible rfl
  try simp only [Act.put, List.setIfInBounds_toArray, List.set_cons_zero, List.set_cons_succ]
  refine rz_take [10, 11, 14, 15] (i := 5) (v := ?_) rfl (by kernel_rfl) (by kernel_rfl) (by kernel_rfl) (by kernel_rfl) (by kernel_rfl) (by kernel_rfl) (fun _ _ _ h => h) (by rfl) ?_ ?_
  rotate_left
  · intro W hW; have hW0 := Frm.tr E0f.out hW; clear hW; go_simp <;> with_reducible rfl
  try simp only [Act.put, List.setIfInBounds_toArray, List.set_cons_zero, List.set_cons_succ]
  refine rz_take [7, 10, 11, 14, 15] (i := 6) (v := ?_) rfl (by kernel_rfl) (by kernel_rfl) (by kernel_rfl) (by kernel_rfl) (by kernel_rfl) (by kernel_rfl) (fun _ _ _ h => h) (by rfl) ?_ ?_
  rotate_left
  · intro W hW; have hW0 := Frm.tr E0f.out hW; clear hW; go_simp <;> with_reducible rfl
  try simp only [Act.put, List.setIfInBounds_toArray, List.set_cons_zero, List.set_cons_succ]
  refine rz_take [10, 11, 14, 15] (i := 7) (v := ?_) rfl (by kernel_rfl) (by kernel_rfl) (by kernel_rfl) (by kernel_rfl) (by kernel_rfl) (by kernel_rfl) (fun _ _ _ h => h) (by rfl) ?_ ?_
  rotate_left
  · intro W hW; have hW0 := Frm.tr E0f.out hW; clear hW; go_simp <;> with_reducible rfl
  try simp only [Act.put, List.setIfInBounds_toArray, List.set_cons_zero, List.set_cons_succ]
  refine rz_take [9, 10, 11, 14, 15] (i := 8) (v := ?_) rfl (by kernel_rfl) (by kernel_rfl) (by kernel_rfl) (by kernel_rfl) (by kernel_rfl) (by kernel_rfl) (fun _ _ _ h => h) (by rfl) ?_ ?_
  rotate_left
  · intro W hW; have hW0 := Frm.tr E0f.out hW; clear hW; go_simp <;> with_reducible rfl
  try simp only [Act.put, List.setIfInBounds_toArray, List.set_cons_zero, List.set_cons_succ]
  refine rz_take [10, 11, 14, 15] (i := 9) (v := ?_) rfl (by kernel_rfl) (by kernel_rfl) (by kernel_rfl) (by kernel_rfl) (by kernel_rfl) (by kernel_rfl) (fun _ _ _ h => h) (by rfl) ?_ ?_
  rotate_left
  · intro W hW; have hW0 := Frm.tr E0f.out hW; clear hW; go_simp <;> with_reducible rfl
  try simp only [Act.put, List.setIfInBounds_toArray, List.set_cons_zero, List.set_cons_succ]
  refine rz_take [11, 14, 15] (i := 10) (v := ?_) rfl (by kernel_rfl) (by kernel_rfl) (by kernel_rfl) (by kernel_rfl) (by kernel_rfl) (by kernel_rfl) (fun _ _ _ h => h) (by rfl) ?_ ?_
  rotate_left
  · intro W hW; have hW0 := Frm.tr E0f.out hW; clear hW; go_simp <;> with_reducible rfl
  try simp only [Act.put, List.setIfInBounds_toArray, List.set_cons_zero, List.set_cons_succ]
  refine rz_take [13, 14, 15] (i := 12) (v := ?_) rfl (by kernel_rfl) (by kernel_rfl) (by kernel_rfl) (by kernel_rfl) (by kernel_rfl) (by kernel_rfl) (fun _ _ _ h => h) (by rfl) ?_ ?_
  rotate_left
  · intro W hW; have hW0 := Frm.tr E0f.out hW; clear hW; go_simp <;> with_reducible rfl
  try simp only [Act.put, List.setIfInBounds_toArray, List.set_cons_zero, List.set_cons_succ]
  refine rz_take [14, 15] (i := 13) (v := ?_) rfl (by kernel_rfl) (by kernel_rfl) (by kernel_rfl) (by kernel_rfl) (by kernel_rfl) (by kernel_rfl) (fun _ _ _ h => h) (by rfl) ?_ ?_
  rotate_left
  · intro W hW; have hW0 := Frm.tr E0f.out hW; clear hW; go_simp <;> with_reducible rfl
  try simp only [Act.put, List.setIfInBounds_toArray, List.set_cons_zero, List.set_cons_succ]
  refine rz_call (i := 11) rfl (by kernel_rfl) (by rfl) (fun K hK => ?_)
  have q1 := KP.out.frozen 7
  have r1 := KP.out.cell 7
  simp at r1
  go_simp
  refine hK _ _ (Frm.of_set _ _ _ rfl) ?_; clear hK K q1 r1
  obtain ⟨W1, hW1⟩ : ∃ W1, W1 = (Wa.setCell ⟨P, 7, none⟩ (.pointer (some ⟨g, 0, none⟩))).drew := ⟨_, rfl⟩
  have KP1 : Hid (Blk W1 P 77 #[v, .int .i64 l0, .int .i64 l1, .int .i64 l2, .int .i64 l3, p0, p1, .pointer (some ⟨g, 0, none⟩), p3]) := by (show Blk _ _ _ _); rw [hW1]; exact KP.out.set 7 _
  have F1 : Hid (Frm (fun k => k = P) Wa.drew W1) := by (show Frm _ _ _); rw [hW1]; exact Frm.of_set (s := fun k => k = P) Wa.drew ⟨P, 7, none⟩ _ rfl
  have E8 : Hid (Frm (fun k => k = P) Wa W1) := Frm.tr E0f.out F1.out
  try rw [← hW1]
  clear hW1
  try simp only [Act.put, List.setIfInBounds_toArray, List.set_cons_zero, List.set_cons_succ]
  refine rz_take [15] (i := 14) (v := ?_) rfl (by kernel_rfl) (by kernel_rfl) (by kernel_rfl) (by kernel_rfl) (by kernel_rfl) (by kernel_rfl) (fun _ _ _ h => h) (by rfl) ?_ ?_
  rotate_left
  · intro W hW; have hW0 := Frm.tr E8.out hW; clear hW; go_simp <;> with_reducible rfl
  try simp only [Act.put, List.setIfInBounds_toArray, List.set_cons_zero, List.set_cons_succ]
  refine rz_call (i := 15) rfl (by kernel_rfl) (by rfl) (fun K hK => ?_)
  have q1 := KP1.out.frozen 3
  have r1 := KP1.out.cell 3
  simp at r1
  go_simp
  refine hK _ _ (Frm.of_set _ _ _ rfl) ?_; clear hK K q1 r1
  obtain ⟨W2, hW2⟩ : ∃ W2, W2 = W1.setCell ⟨P, 3, none⟩ (.int .i64 s) := ⟨_, rfl⟩
  have KP2 : Hid (Blk W2 P 77 #[v, .int .i64 l0, .int .i64 l1, .int .i64 s, .int .i64 l3, p0, p1, .pointer (some ⟨g, 0, none⟩), p3]) := by (show Blk _ _ _ _); rw [hW2]; exact KP1.out.set 3 _
  have F2 : Hid (Frm (fun k => k = P) Wa.drew W2) := by (show Frm _ _ _); rw [hW2]; exact Frm.tr F1.out (Frm.of_set _ _ _ rfl)
  have E9 : Hid (Frm (fun k => k = P) Wa W2) := Frm.tr E0f.out (Frm.tr (Frm.refl _ _) F2.out)
  try rw [← hW2]
  clear hW2
  try simp only [Act.put, List.setIfInBounds_toArray, List.set_cons_zero, List.set_cons_succ]
  refine rz_done (by kernel_rfl) ?_ _
  try go_wp2_with fail
  have EP2 : Hid (Frm (fun k => k = P) w W2) := Frm.tr (Frm.of_below EaX.out _) E9.out
  have HKQ2 := Lib.hid (HKQa.out.frm E9.out hgne)
  have HOWN2 := Lib.hid (own_frmN HOWN.out EP2.out (fun k hk e => HNP.out (by rw [← e, ← hk]; exact HG.out)))
  clear z0 z1 z2 z3 z4 z5
  have hgG : ¬ some g = G := fun e => by
    obtain ⟨cs, hc⟩ := own_blk HOWN2.out (HG.out.trans e.symm)
    exact Blk.apart HKQ2.out hc (by decide) rfl
  have z0 : ∀ V, Frm (fun k => some k = G) W2 V → V.cell? ⟨g, 0, none⟩ = some (.int .i64 2) := fun V h => ((HKQ2.out.frm h hgG)).cell 0
  have z1 : ∀ V, Frm (fun k => some k = G) W2 V → V.cell? ⟨g, 1, none⟩ = some (.int .i64 s) := fun V h => ((HKQ2.out.frm h hgG)).cell 1
  have z2 : ∀ V, Frm (fun k => some k = G) W2 V → V.cell? ⟨g, 2, none⟩ = some (.int .i64 k) := fun V h => ((HKQ2.out.frm h hgG)).cell 2
  have z3 : ∀ V, Frm (fun k => some k = G) W2 V → V.cell? ⟨g, 3, none⟩ = some (.int .i64 i) := fun V h => ((HKQ2.out.frm h hgG)).cell 3
  have z4 : ∀ V, Frm (fun k => some k = G) W2 V → V.cell? ⟨g, 4, none⟩ = some (.int .i64 m) := fun V h => ((HKQ2.out.frm h hgG)).cell 4
  have z5 : ∀ V, Frm (fun k => some k = G) W2 V → V.cell? ⟨g, 5, none⟩ = some (.string d) := fun V h => ((HKQ2.out.frm h hgG)).cell 5
  have y0 : ∀ V, Frm (fun k => some k = G) W2 V → V.cell? ⟨P, 0, none⟩ = some (v) := fun V h => (KP2.out.frm h HNP.out).cell 0
  have Xe : Hid (Ext W2 W2.drew) := (Ext.refl _).drewR
  have E0g : Hid (Frm (fun k => some k = G) W2 W2.drew) := Frm.of_below Xe.out _
  refine rz_begin (fun k => some k = G) [15] (by kernel_rfl) ?_
  refine rz_take [13, 14, 15] (i := 0) (v := ?_) rfl (by kernel_rfl) (by kernel_rfl) (by kernel_rfl) (by kernel_rfl) (by kernel_rfl) (by kernel_rfl) (fun _ _ _ h => h) (by rfl) ?_ ?_
  rotate_left
  · intro W hW; have hW0 := Frm.tr E0g.out hW; clear hW; go_simp <;> with_reducible rfl
  try simp only [Act.put, List.setIfInBounds_toArray, List.set_cons_zero, List.set_cons_succ]
  refine rz_take [2, 3, 4, 12, 13, 14, 15] (i := 1) (v := ?_) rfl (by kernel_rfl) (by kernel_rfl) (by kernel_rfl) (by kernel_rfl) (by kernel_rfl) (by kernel_rfl) (fun _ _ _ h => h) (by rfl) ?_ ?_
  rotate_left
  · intro W hW; have hW0 := Frm.tr E0g.out hW; clear hW; go_simp <;> with_reducible rfl
  try simp only [Act.put, List.setIfInBounds_toArray, List.set_cons_zero, List.set_cons_succ]
  refine rz_take [3, 4, 12, 13, 14, 15] (i := 2) (v := ?_) rfl (by kernel_rfl) (by kernel_rfl) (by kernel_rfl) (by kernel_rfl) (by kernel_rfl) (by kernel_rfl) (fun _ _ _ h => h) (by rfl) ?_ ?_
  rotate_left
  · intro W hW; have hW0 := Frm.tr E0g.out hW; clear hW; go_simp <;> with_reducible rfl
  try simp only [Act.put, List.setIfInBounds_toArray, List.set_cons_zero, List.set_cons_succ]
  refine rz_take [4, 12, 13, 14, 15] (i := 3) (v := ?_) rfl (by kernel_rfl) (by kernel_rfl) (by kernel_rfl) (by kernel_rfl) (by kernel_rfl) (by kernel_rfl) (fun _ _ _ h => h) (by rfl) ?_ ?_
  rotate_left
  · intro W hW; have hW0 := Frm.tr E0g.out hW; clear hW; go_simp <;> with_reducible rfl
  try simp only [Act.put, List.setIfInBounds_toArray, List.set_cons_zero, List.set_cons_succ]
  refine rz_take [12, 13, 14, 15] (i := 4) (v := ?_) rfl (by kernel_rfl) (by kernel_rfl) (by kernel_rfl) (by kernel_rfl) (by kernel_rfl) (by kernel_rfl) (fun _ _ _ h => h) (by rfl) ?_ ?_
  rotate_left
  · intro W hW; have hW0 := Frm.tr E0g.out hW; clear hW; go_simp <;> with_reducible rfl
  try simp only [Act.put, List.setIfInBounds_toArray, List.set_cons_zero, List.set_cons_succ]
  refine rz_take [6, 10, 11, 12, 13, 14, 15] (i := 5) (v := ?_) rfl (by kernel_rfl) (by kernel_rfl) (by kernel_rfl) (by kernel_rfl) (by kernel_rfl) (by kernel_rfl) (fun _ _ _ h => h) (by rfl) ?_ ?_
  rotate_left
  · intro W hW; have hW0 := Frm.tr E0g.out hW; clear hW; go_simp <;> with_reducible rfl
  try simp only [Act.put, List.setIfInBounds_toArray, List.set_cons_zero, List.set_cons_succ]
  refine rz_take [10, 11, 12, 13, 14, 15] (i := 6) (v := ?_) rfl (by kernel_rfl) (by kernel_rfl) (by kernel_rfl) (by kernel_rfl) (by kernel_rfl) (by kernel_rfl) (fun _ _ _ h => h) (by rfl) ?_ ?_
  rotate_left
  · intro W hW; have hW0 := Frm.tr E0g.out hW; clear hW; go_simp <;> with_reducible rfl
  try simp only [Act.put, List.setIfInBounds_toArray, List.set_cons_zero, List.set_cons_succ]
  refine rz_take [8, 10, 11, 12, 13, 14, 15] (i := 7) (v := ?_) rfl (by kernel_rfl) (by kernel_rfl) (by kernel_rfl) (by kernel_rfl) (by kernel_rfl) (by kernel_rfl) (fun _ _ _ h => h) (by rfl) ?_ ?_
  rotate_left
  · intro W hW; have hW0 := Frm.tr E0g.out hW; clear hW; go_simp <;> with_reducible rfl
  try simp only [Act.put, List.setIfInBounds_toArray, List.set_cons_zero, List.set_cons_succ]
  refine rz_take [10, 11, 12, 13, 14, 15] (i := 8) (v := ?_) rfl (by kernel_rfl) (by kernel_rfl) (by kernel_rfl) (by kernel_rfl) (by kernel_rfl) (by kernel_rfl) (fun _ _ _ h => h) (by rfl) ?_ ?_
  rotate_left
  · intro W hW; have hW0 := Frm.tr E0g.out hW; clear hW; go_simp <;> with_reducible rfl
  try simp only [Act.put, List.setIfInBounds_toArray, List.set_cons_zero, List.set_cons_succ]
  refine rz_take [10, 11, 12, 13, 14, 15] (i := 9) (v := ?_) rfl (by kernel_rfl) (by kernel_rfl) (by kernel_rfl) (by kernel_rfl) (by kernel_rfl) (by kernel_rfl) (fun _ _ _ h => h) (by rfl) ?_ ?_
  rotate_left
  · intro W hW; have hW0 := Frm.tr E0g.out hW; clear hW; go_simp <;> with_reducible rfl
  try simp only [Act.put, List.setIfInBounds_toArray, List.set_cons_zero, List.set_cons_succ]
  refine rz_take [11, 12, 13, 14, 15] (i := 10) (v := ?_) rfl (by kernel_rfl) (by kernel_rfl) (by kernel_rfl) (by kernel_rfl) (by kernel_rfl) (by kernel_rfl) (fun _ _ _ h => h) (by rfl) ?_ ?_
  rotate_left
  · intro W hW; have hW0 := Frm.tr E0g.out hW; clear hW; go_simp <;> with_reducible rfl
  try simp only [Act.put, List.setIfInBounds_toArray, List.set_cons_zero, List.set_cons_succ]
  refine rz_call (i := 11) rfl (by kernel_rfl) (by rfl) (fun K hK => ?_)
  go_simp
  refine hK _ _ (Frm.of_alloc _ _ _) ?_; clear hK K
  obtain ⟨W3, hW3⟩ : ∃ W3, W3 = (W2.alloc (.cells #[.int .i64 2, .int .i64 s, .bool false, .int .i64 2, .int .i64 s, .int .i64 k, .int .i64 i, .int .i64 m, .string d, .int .i64 0, .int .i64 0, .string ⟨#[]⟩, .slice none 0 0, .int .i64 0] 50)).drew := ⟨_, rfl⟩
  have KR3 : Hid (Blk W3 W2.drew.heap.size 50 #[.int .i64 2, .int .i64 s, .bool false, .int .i64 2, .int .i64 s, .int .i64 k, .int .i64 i, .int .i64 m, .string d, .int .i64 0, .int .i64 0, .string ⟨#[]⟩, .slice none 0 0, .int .i64 0]) := by (show Blk _ _ _ _); rw [hW3]; exact Blk.new W2.drew _ _
  have X3 : Hid (Ext W2.drew W3) := by (show Ext _ _); rw [hW3]; exact Ext.alloc W2.drew _
  have E3 : Hid (Frm (fun k => some k = G) W2 W3) := Frm.tr E0g.out (Frm.of_below X3.out _)
  try rw [← hW3]
  clear hW3
  try simp only [Act.put, List.setIfInBounds_toArray, List.set_cons_zero, List.set_cons_succ]
  refine rz_call (i := 12) rfl (by kernel_rfl) (by rfl) (fun K hK => ?_)
  refine wp_append_wide (.tmp 51) (.tmp 58) 26 rfl base 50 _ 14 144 Try.underlying26 info_act rfl (by decide) (by decide) v L.length (flatA L) rfl (own_frmN HOWN2.out (Frm.of_below (Ext.trans Xe.out X3.out) (fun _ => False)) (fun _ _ h => h)) W2.drew.heap.size [.int .i64 2, .int .i64 s, .bool false, .int .i64 2, .int .i64 s, .int .i64 k, .int .i64 i, .int .i64 m, .string d, .int .i64 0, .int .i64 0, .string ⟨#[]⟩, .slice none 0 0, .int .i64 0] rfl rfl KR3.out (by intro y hy; simp at hy; rcases hy with rfl | rfl | rfl | rfl | rfl | rfl | rfl | rfl | rfl | rfl | rfl | rfl | rfl | rfl <;> rfl) HLN.out (Nat.le_trans HBS.out (Nat.le_trans (Frm.tr EP2.out (Frm.of_below Xe.out _)).size X3.out.size)) ?_
  intro v2 W4 oo gg bb
  obtain ⟨A2, cap2, hv2⟩ := own_shape oo
  subst hv2
  refine hK _ _ (Frm.of_grown gg (fun k hk => hk.trans HG.out)) ?_; clear hK K
  have O4 := Lib.hid oo
  have G4 := Lib.hid gg
  have BB4 := Lib.hid bb
  have E4 : Hid (Frm (fun k => some k = G) W2 W4) := Frm.tr E3.out (Frm.of_grown gg (fun k hk => hk.trans HG.out))
  clear oo gg bb
  have KP4 : Hid (Blk W4 P 77 #[v, .int .i64 l0, .int .i64 l1, .int .i64 s, .int .i64 l3, p0, p1, .pointer (some ⟨g, 0, none⟩), p3]) := KP2.out.frm E4.out (fun e => HNP.out e)
  try simp only [Act.put, List.setIfInBounds_toArray, List.set_cons_zero, List.set_cons_succ]
  refine rz_take [14, 15] (i := 13) (v := ?_) rfl (by kernel_rfl) (by kernel_rfl) (by kernel_rfl) (by kernel_rfl) (by kernel_rfl) (by kernel_rfl) (fun _ _ _ h => h) (by rfl) ?_ ?_
  rotate_left
  · intro W hW; have hW0 := Frm.tr E4.out hW; clear hW; go_simp <;> with_reducible rfl
  try simp only [Act.put, List.setIfInBounds_toArray, List.set_cons_zero, List.set_cons_succ]
  refine rz_take [15] (i := 14) (v := ?_) rfl (by kernel_rfl) (by kernel_rfl) (by kernel_rfl) (by kernel_rfl) (by kernel_rfl) (by kernel_rfl) (fun _ _ _ h => h) (by rfl) ?_ ?_
  rotate_left
  · intro W hW; have hW0 := Frm.tr E4.out hW; clear hW; go_simp <;> with_reducible rfl
  try simp only [Act.put, List.setIfInBounds_toArray, List.set_cons_zero, List.set_cons_succ]
  refine rz_last (i := 15) rfl (by kernel_rfl) (by rfl) (by rfl) (fun K hK => ?_)
  have q1 := KP4.out.frozen 0
  have r1 := KP4.out.cell 0
  simp at r1
  go_simp
  refine hK _ _ ?_; clear hK K q1 r1
  obtain ⟨W5, hW5⟩ : ∃ W5, W5 = W4.setCell ⟨P, 0, none⟩ (.slice A2 (L.length + 1) cap2) := ⟨_, rfl⟩
  have KP5 : Hid (Blk W5 P 77 #[.slice A2 (L.length + 1) cap2, .int .i64 l0, .int .i64 l1, .int .i64 s, .int .i64 l3, p0, p1, .pointer (some ⟨g, 0, none⟩), p3]) := by (show Blk _ _ _ _); rw [hW5]; exact KP4.out.set 0 _
  have F5 : Hid (Frm (fun k => k = P) W4 W5) := by (show Frm _ _ _); rw [hW5]; exact Frm.of_set _ _ _ rfl
  try rw [← hW5]
  clear hW5
  try simp only [Act.put, List.setIfInBounds_toArray, List.set_cons_zero, List.set_cons_succ]
  refine rz_done (by kernel_rfl) ?_ _
  clear z0 z1 z2 z3 z4 z5 y0
  go_wp2_with fail
  try go_ret
  have hqq : ∀ k cs, Blk w k 29 cs ∨ Blk w k 3 cs → ¬ k = P := fun k cs h e => by
    subst e
    rcases h with h | h
    · exact Blk.apart HKPw.out h (by decide) rfl
    · exact Blk.apart HKPw.out h (by decide) rfl
  have hqg : ∀ k cs, Blk w k 29 cs ∨ Blk w k 3 cs → ¬ some k = G := fun k cs h e => by
    obtain ⟨cs', hc⟩ := own_blk HOWNw.out (HG.out.trans e.symm)
    rcases h with h | h
    · exact Blk.apart hc h (by decide) rfl
    · exact Blk.apart hc h (by decide) rfl
  have FA : Frm (Psel P G) w W5 := Frm.tr (EP2.out.mono (fun k hk => Or.inl hk)) (Frm.tr (E4.out.mono (fun k hk => Or.inr hk)) (F5.out.mono (fun k hk => Or.inl hk)))
  have hkeep : ∀ k t cs, t = 29 ∨ t = 3 → Blk w k t cs → Blk W5 k t cs := fun k t cs ht h => h.frm FA (fun hh => by
    rcases ht with rfl | rfl
    · rcases hh with hh | hh
      · exact hqq k cs (.inl h) hh
      · exact hqg k cs (.inl h) hh
    · rcases hh with hh | hh
      · exact hqq k cs (.inr h) hh
      · exact hqg k cs (.inr h) hh)
  have hq5 : ∀ g cs, Blk w g 29 cs → Blk W5 g 29 cs := fun k cs h => hkeep k _ cs (.inl rfl) h
  have hg5 : Blk W5 g 29 #[.int .i64 2, .int .i64 s, .int .i64 k, .int .i64 i, .int .i64 m, .string d] := ((HKQ2.out.frm E4.out hgG).frm F5.out hgne)
  obtain ⟨h40, h41, h42, h43⟩ := HWT.out
  have O5 : W5.ownsRow base 50 14 (.slice A2 (L.length + 1) cap2) (L ++ [At.mk (Ac.mk 2 s false (Rqv.mk 2 s k i m d) Rpv.zero 0) none 0]).length (flatA (L ++ [At.mk (Ac.mk 2 s false (Rqv.mk 2 s k i m d) Rpv.zero 0) none 0])) := by
    rw [flatA_append, List.length_append]
    exact own_frmN O4.out F5.out (fun k hk e => own_blkne O4.out KP4.out (by decide) k hk e)
  refine hD.out _ _ ⟨rfl, _, ⟨HBP.out, .slice A2 (L.length + 1) cap2, l0, l1, s, l3, p0, p1, .pointer (some ⟨g, 0, none⟩), p3, o0, o1, some ⟨2, s, k, i, m, d⟩, o3, L ++ [At.mk (Ac.mk 2 s false (Rqv.mk 2 s k i m d) Rpv.zero 0) none 0], KP5.out, ?_, ?_, ⟨h40.of hq5, h41.of hq5, ⟨g, rfl, hg5⟩, h43.of hq5⟩, O5, rfl, ?_, ?_⟩, FA, ?_⟩
  · show st.last.set 2 s = _
    rw [HLS.out]; rfl
  · show st.wait.set 2 (some ⟨2, s, k, i, m, d⟩) = _
    rw [HWS.out]; rfl
  · rw [List.map_append, HL.out]; rfl
  · intro t ht
    rw [List.mem_append, List.mem_singleton] at ht
    rcases ht with ht | rfl
    · exact (HIN.out t ht).of (fun k cs h => hkeep k _ cs (.inr rfl) h)
    · exact In.nil _
  · rcases BB4.out with h5 | h5
    · exact .inl (h5.trans HG.out)
    · exact .inr ⟨_, h5, Nat.le_trans EaX.out.size (Nat.le_trans (Frm.tr E0f.out (Frm.refl _ _)).size (Nat.le_trans F2.out.size (Nat.le_trans Xe.out.size X3.out.size)))⟩

set_option maxRecDepth 4000 in
set_option maxHeartbeats 8000000 in
theorem ask_wait3 (base P : Nat) (G : Option Nat) (st : Ps) (s k i m : Int) (d : ByteArray) (w : World) (H : PAt w base P G st) (hd : d.size ≤ maxLen) (hm : mayReqB 3 s k i m d.size = true) (hs : ∃ x, st.w 3 = some x) :
    Calls Try.prog 11 #[.pointer (some ⟨P, 0, none⟩), .agg #[.int .i64 3, .int .i64 s, .int .i64 k, .int .i64 i, .int .i64 m, .string d]] w fun e w' => e = .returned (.int .i64 4) ∧ Ext w w' := by
  refine hide_post fun D hD => ?_
  obtain ⟨hbP, v, l0, l1, l2, l3, p0, p1, p2, p3, o0, o1, o2, o3, L, kP, hl, hw, hwt, hown, hG, hL, hin⟩ := H
  obtain ⟨w0, hw0⟩ : ∃ w0, w0 = w.alloc (.cells #[.int .i64 3, .int .i64 s, .int .i64 k, .int .i64 i, .int .i64 m, .string d] 29) := ⟨_, rfl⟩
  have hb0 : Ext w w0 := by rw [hw0]; exact Ext.alloc _ _
  have KQ : Hid (Blk w0 w.heap.size 29 #[.int .i64 3, .int .i64 s, .int .i64 k, .int .i64 i, .int .i64 m, .string d]) := by show Blk _ _ _ _; rw [hw0]; exact Blk.new _ _ _
  have CM : Hid (∀ V, Calls Try.prog 35 #[.agg #[.int .i64 3, .int .i64 s, .int .i64 k, .int .i64 i, .int .i64 m, .string d]] V fun e w' => e = .returned (.bool true) ∧ Ext V w') := fun V => by rw [← hm]; exact mayReq_any 3 s k i m d V hd
  have X0 : Hid (Ext w w0) := hb0
  have HW := Lib.hid hw0
  obtain ⟨x, hx⟩ := hs
  have ho : o3 = some x := by unfold Ps.w at hx; rw [hw] at hx; exact hx
  subst ho
  obtain ⟨gq, rfl, hgq⟩ := hwt.2.2.2
  have y0 : ∀ V, Ext w0 V → V.cell? ⟨P, 0, none⟩ = some (v) := fun V h => (((kP.stay hb0).stay h)).cell 0
  have y4 : ∀ V, Ext w0 V → V.cell? ⟨P, 4, none⟩ = some (.int .i64 l3) := fun V h => (((kP.stay hb0).stay h)).cell 4
  have y8 : ∀ V, Ext w0 V → V.cell? ⟨P, 8, none⟩ = some (.pointer (some ⟨gq, 0, none⟩)) := fun V h => (((kP.stay hb0).stay h)).cell 8
  have z0 : ∀ V, Ext w0 V → V.cell? ⟨w.heap.size, 0, none⟩ = some (.int .i64 3) := fun V h => ((KQ.out.stay h)).cell 0
  have z1 : ∀ V, Ext w0 V → V.cell? ⟨w.heap.size, 1, none⟩ = some (.int .i64 s) := fun V h => ((KQ.out.stay h)).cell 1
  have z2 : ∀ V, Ext w0 V → V.cell? ⟨w.heap.size, 2, none⟩ = some (.int .i64 k) := fun V h => ((KQ.out.stay h)).cell 2
  have z3 : ∀ V, Ext w0 V → V.cell? ⟨w.heap.size, 3, none⟩ = some (.int .i64 i) := fun V h => ((KQ.out.stay h)).cell 3
  have z4 : ∀ V, Ext w0 V → V.cell? ⟨w.heap.size, 4, none⟩ = some (.int .i64 m) := fun V h => ((KQ.out.stay h)).cell 4
  have z5 : ∀ V, Ext w0 V → V.cell? ⟨w.heap.size, 5, none⟩ = some (.string d) := fun V h => ((KQ.out.stay h)).cell 5
  clear hb0 hw0 kP hl hw hwt hown hG hL hin hm hd hx hgq
  go_enter Try.func11, Try.ntmps11
  go_wp2_with (go_at_call 35; rw [← HW.out]; (with_reducible refine (CM.out _).mono ?_); rintro e w1 ⟨rfl, hx⟩; have E1 : Hid (Ext w0 w1) := hx; clear hx)
  refine ext_begin (by kernel_rfl) ?_
  have E1d := Lib.hid (Ext.drewR E1.out)
  refine ext_take (i := 0) (v := ?_) rfl (by kernel_rfl) (by kernel_rfl) (by kernel_rfl) (fun _ _ _ h => h) (by rfl) ?_ ?_
  rotate_left
  · intro W hW; have hW0 := Ext.trans E1d.out hW; clear hW; go_simp <;> with_reducible rfl
  try simp only [Act.put, List.setIfInBounds_toArray, List.set_cons_zero, List.set_cons_succ]
  refine ext_take (i := 1) (v := ?_) rfl (by kernel_rfl) (by kernel_rfl) (by kernel_rfl) (fun _ _ _ h => h) (by rfl) ?_ ?_
  rotate_left
  · intro W hW; have hW0 := Ext.trans E1d.out hW; clear hW; go_simp <;> with_reducible rfl
  try simp only [Act.put, List.setIfInBounds_toArray, List.set_cons_zero, List.set_cons_succ]
  refine ext_take (i := 2) (v := ?_) rfl (by kernel_rfl) (by kernel_rfl) (by kernel_rfl) (fun _ _ _ h => h) (by rfl) ?_ ?_
  rotate_left
  · intro W hW; have hW0 := Ext.trans E1d.out hW; clear hW; go_simp <;> with_reducible rfl
  try simp only [Act.put, List.setIfInBounds_toArray, List.set_cons_zero, List.set_cons_succ]
  refine ext_take (i := 3) (v := ?_) rfl (by kernel_rfl) (by kernel_rfl) (by kernel_rfl) (fun _ _ _ h => h) (by rfl) ?_ ?_
  rotate_left
  · intro W hW; have hW0 := Ext.trans E1d.out hW; clear hW; go_simp <;> with_reducible rfl
  try simp only [Act.put, List.setIfInBounds_toArray, List.set_cons_zero, List.set_cons_succ]
  refine ext_take (i := 4) (v := ?_) rfl (by kernel_rfl) (by kernel_rfl) (by kernel_rfl) (fun _ _ _ h => h) (by rfl) ?_ ?_
  rotate_left
  · intro W hW; have hW0 := Ext.trans E1d.out hW; clear hW; go_simp <;> with_reducible rfl
  try simp only [Act.put, List.setIfInBounds_toArray, List.set_cons_zero, List.set_cons_succ]
  refine ext_take (i := 5) (v := ?_) rfl (by kernel_rfl) (by kernel_rfl) (by kernel_rfl) (fun _ _ _ h => h) (by rfl) ?_ ?_
  rotate_left
  · intro W hW; have hW0 := Ext.trans E1d.out hW; clear hW; go_simp <;> with_reducible rfl
  try simp only [Act.put, List.setIfInBounds_toArray, List.set_cons_zero, List.set_cons_succ]
  refine ext_take (i := 6) (v := ?_) rfl (by kernel_rfl) (by kernel_rfl) (by kernel_rfl) (fun _ _ _ h => h) (by rfl) ?_ ?_
  rotate_left
  · intro W hW; have hW0 := Ext.trans E1d.out hW; clear hW; go_simp <;> with_reducible rfl
  try simp only [Act.put, List.setIfInBounds_toArray, List.set_cons_zero, List.set_cons_succ]
  refine ext_take (i := 7) (v := ?_) rfl (by kernel_rfl) (by kernel_rfl) (by kernel_rfl) (fun _ _ _ h => h) (by rfl) ?_ ?_
  rotate_left
  · intro W hW; have hW0 := Ext.trans E1d.out hW; clear hW; go_simp <;> with_reducible rfl
  try simp only [Act.put, List.setIfInBounds_toArray, List.set_cons_zero, List.set_cons_succ]
  refine ext_take (i := 8) (v := ?_) rfl (by kernel_rfl) (by kernel_rfl) (by kernel_rfl) (fun _ _ _ h => h) (by rfl) ?_ ?_
  rotate_left
  · intro W hW; have hW0 := Ext.trans E1d.out hW; clear hW; go_simp <;> with_reducible rfl
  try simp only [Act.put, List.setIfInBounds_toArray, List.set_cons_zero, List.set_cons_succ]
  refine wpAnyH_done (by kernel_rfl) ?_ _
  have EX := Lib.hid E1d.out
  clear E1d
  try go_wp2_with fail
  try go_ret
  exact hD.out _ _ ⟨rfl, Ext.trans X0.out EX.out⟩

set_option maxRecDepth 4000 in
set_option maxHeartbeats 8000000 in
theorem ask_old3 (base P : Nat) (G : Option Nat) (st : Ps) (s k i m : Int) (d : ByteArray) (w : World) (H : PAt w base P G st) (hd : d.size ≤ maxLen) (hm : mayReqB 3 s k i m d.size = true) (hs : st.w 3 = none) (ht : s ≤ st.la 3) :
    Calls Try.prog 11 #[.pointer (some ⟨P, 0, none⟩), .agg #[.int .i64 3, .int .i64 s, .int .i64 k, .int .i64 i, .int .i64 m, .string d]] w fun e w' => e = .returned (.int .i64 9) ∧ Ext w w' := by
  refine hide_post fun D hD => ?_
  obtain ⟨hbP, v, l0, l1, l2, l3, p0, p1, p2, p3, o0, o1, o2, o3, L, kP, hl, hw, hwt, hown, hG, hL, hin⟩ := H
  obtain ⟨w0, hw0⟩ : ∃ w0, w0 = w.alloc (.cells #[.int .i64 3, .int .i64 s, .int .i64 k, .int .i64 i, .int .i64 m, .string d] 29) := ⟨_, rfl⟩
  have hb0 : Ext w w0 := by rw [hw0]; exact Ext.alloc _ _
  have KQ : Hid (Blk w0 w.heap.size 29 #[.int .i64 3, .int .i64 s, .int .i64 k, .int .i64 i, .int .i64 m, .string d]) := by show Blk _ _ _ _; rw [hw0]; exact Blk.new _ _ _
  have CM : Hid (∀ V, Calls Try.prog 35 #[.agg #[.int .i64 3, .int .i64 s, .int .i64 k, .int .i64 i, .int .i64 m, .string d]] V fun e w' => e = .returned (.bool true) ∧ Ext V w') := fun V => by rw [← hm]; exact mayReq_any 3 s k i m d V hd
  have X0 : Hid (Ext w w0) := hb0
  have HW := Lib.hid hw0
  have ho : o3 = none := by unfold Ps.w at hs; rw [hw] at hs; exact hs
  have hlc : l3 = st.la 3 := by unfold Ps.la; rw [hl]; rfl
  obtain rfl : p3 = .pointer none := by have h5 := hwt.2.2.2; rw [ho] at h5; exact h5
  rw [← hlc] at ht
  have CW : Hid (∀ V, Calls Try.prog 36 #[.agg #[.int .i64 3, .int .i64 s, .int .i64 k, .int .i64 i, .int .i64 m, .string d], .int .i64 l3] V fun e w' => e = .returned (.bool false) ∧ Ext V w') := fun V => by
    have h5 := newer_any 3 s k i m d l3 V hd
    rw [hm, Bool.true_and, decide_eq_false (by omega)] at h5
    exact h5
  have y0 : ∀ V, Ext w0 V → V.cell? ⟨P, 0, none⟩ = some (v) := fun V h => (((kP.stay hb0).stay h)).cell 0
  have y4 : ∀ V, Ext w0 V → V.cell? ⟨P, 4, none⟩ = some (.int .i64 l3) := fun V h => (((kP.stay hb0).stay h)).cell 4
  have y8 : ∀ V, Ext w0 V → V.cell? ⟨P, 8, none⟩ = some (.pointer none) := fun V h => (((kP.stay hb0).stay h)).cell 8
  have z0 : ∀ V, Ext w0 V → V.cell? ⟨w.heap.size, 0, none⟩ = some (.int .i64 3) := fun V h => ((KQ.out.stay h)).cell 0
  have z1 : ∀ V, Ext w0 V → V.cell? ⟨w.heap.size, 1, none⟩ = some (.int .i64 s) := fun V h => ((KQ.out.stay h)).cell 1
  have z2 : ∀ V, Ext w0 V → V.cell? ⟨w.heap.size, 2, none⟩ = some (.int .i64 k) := fun V h => ((KQ.out.stay h)).cell 2
  have z3 : ∀ V, Ext w0 V → V.cell? ⟨w.heap.size, 3, none⟩ = some (.int .i64 i) := fun V h => ((KQ.out.stay h)).cell 3
  have z4 : ∀ V, Ext w0 V → V.cell? ⟨w.heap.size, 4, none⟩ = some (.int .i64 m) := fun V h => ((KQ.out.stay h)).cell 4
  have z5 : ∀ V, Ext w0 V → V.cell? ⟨w.heap.size, 5, none⟩ = some (.string d) := fun V h => ((KQ.out.stay h)).cell 5
  clear hb0 hw0 kP hl hw hwt hown hG hL hin hm hd hs ht ho hlc
  go_enter Try.func11, Try.ntmps11
  go_wp2_with (go_at_call 35; rw [← HW.out]; (with_reducible refine (CM.out _).mono ?_); rintro e w1 ⟨rfl, hx⟩; have E1 : Hid (Ext w0 w1) := hx; clear hx)
  refine ext_begin (by kernel_rfl) ?_
  have E1d := Lib.hid (Ext.drewR E1.out)
  refine ext_take (i := 0) (v := ?_) rfl (by kernel_rfl) (by kernel_rfl) (by kernel_rfl) (fun _ _ _ h => h) (by rfl) ?_ ?_
  rotate_left
  · intro W hW; have hW0 := Ext.trans E1d.out hW; clear hW; go_simp <;> with_reducible rfl
  try simp only [Act.put, List.setIfInBounds_toArray, List.set_cons_zero, List.set_cons_succ]
  refine ext_take (i := 1) (v := ?_) rfl (by kernel_rfl) (by kernel_rfl) (by kernel_rfl) (fun _ _ _ h => h) (by rfl) ?_ ?_
  rotate_left
  · intro W hW; have hW0 := Ext.trans E1d.out hW; clear hW; go_simp <;> with_reducible rfl
  try simp only [Act.put, List.setIfInBounds_toArray, List.set_cons_zero, List.set_cons_succ]
  refine ext_take (i := 2) (v := ?_) rfl (by kernel_rfl) (by kernel_rfl) (by kernel_rfl) (fun _ _ _ h => h) (by rfl) ?_ ?_
  rotate_left
  · intro W hW; have hW0 := Ext.trans E1d.out hW; clear hW; go_simp <;> with_reducible rfl
  try simp only [Act.put, List.setIfInBounds_toArray, List.set_cons_zero, List.set_cons_succ]
  refine ext_take (i := 3) (v := ?_) rfl (by kernel_rfl) (by kernel_rfl) (by kernel_rfl) (fun _ _ _ h => h) (by rfl) ?_ ?_
  rotate_left
  · intro W hW; have hW0 := Ext.trans E1d.out hW; clear hW; go_simp <;> with_reducible rfl
  try simp only [Act.put, List.setIfInBounds_toArray, List.set_cons_zero, List.set_cons_succ]
  refine ext_take (i := 4) (v := ?_) rfl (by kernel_rfl) (by kernel_rfl) (by kernel_rfl) (fun _ _ _ h => h) (by rfl) ?_ ?_
  rotate_left
  · intro W hW; have hW0 := Ext.trans E1d.out hW; clear hW; go_simp <;> with_reducible rfl
  try simp only [Act.put, List.setIfInBounds_toArray, List.set_cons_zero, List.set_cons_succ]
  refine ext_take (i := 5) (v := ?_) rfl (by kernel_rfl) (by kernel_rfl) (by kernel_rfl) (fun _ _ _ h => h) (by rfl) ?_ ?_
  rotate_left
  · intro W hW; have hW0 := Ext.trans E1d.out hW; clear hW; go_simp <;> with_reducible rfl
  try simp only [Act.put, List.setIfInBounds_toArray, List.set_cons_zero, List.set_cons_succ]
  refine ext_take (i := 6) (v := ?_) rfl (by kernel_rfl) (by kernel_rfl) (by kernel_rfl) (fun _ _ _ h => h) (by rfl) ?_ ?_
  rotate_left
  · intro W hW; have hW0 := Ext.trans E1d.out hW; clear hW; go_simp <;> with_reducible rfl
  try simp only [Act.put, List.setIfInBounds_toArray, List.set_cons_zero, List.set_cons_succ]
  refine ext_take (i := 7) (v := ?_) rfl (by kernel_rfl) (by kernel_rfl) (by kernel_rfl) (fun _ _ _ h => h) (by rfl) ?_ ?_
  rotate_left
  · intro W hW; have hW0 := Ext.trans E1d.out hW; clear hW; go_simp <;> with_reducible rfl
  try simp only [Act.put, List.setIfInBounds_toArray, List.set_cons_zero, List.set_cons_succ]
  refine ext_take (i := 8) (v := ?_) rfl (by kernel_rfl) (by kernel_rfl) (by kernel_rfl) (fun _ _ _ h => h) (by rfl) ?_ ?_
  rotate_left
  · intro W hW; have hW0 := Ext.trans E1d.out hW; clear hW; go_simp <;> with_reducible rfl
  try simp only [Act.put, List.setIfInBounds_toArray, List.set_cons_zero, List.set_cons_succ]
  refine wpAnyH_done (by kernel_rfl) ?_ _
  try go_wp2_with fail
  refine ext_begin (by kernel_rfl) ?_
  have E1dd := Lib.hid (Ext.drewR E1d.out)
  refine ext_take (i := 0) (v := ?_) rfl (by kernel_rfl) (by kernel_rfl) (by kernel_rfl) (fun _ _ _ h => h) (by rfl) ?_ ?_
  rotate_left
  · intro W hW; have hW0 := Ext.trans E1dd.out hW; clear hW; go_simp <;> with_reducible rfl
  try simp only [Act.put, List.setIfInBounds_toArray, List.set_cons_zero, List.set_cons_succ]
  refine ext_take (i := 1) (v := ?_) rfl (by kernel_rfl) (by kernel_rfl) (by kernel_rfl) (fun _ _ _ h => h) (by rfl) ?_ ?_
  rotate_left
  · intro W hW; have hW0 := Ext.trans E1dd.out hW; clear hW; go_simp <;> with_reducible rfl
  try simp only [Act.put, List.setIfInBounds_toArray, List.set_cons_zero, List.set_cons_succ]
  refine ext_take (i := 2) (v := ?_) rfl (by kernel_rfl) (by kernel_rfl) (by kernel_rfl) (fun _ _ _ h => h) (by rfl) ?_ ?_
  rotate_left
  · intro W hW; have hW0 := Ext.trans E1dd.out hW; clear hW; go_simp <;> with_reducible rfl
  try simp only [Act.put, List.setIfInBounds_toArray, List.set_cons_zero, List.set_cons_succ]
  refine ext_take (i := 3) (v := ?_) rfl (by kernel_rfl) (by kernel_rfl) (by kernel_rfl) (fun _ _ _ h => h) (by rfl) ?_ ?_
  rotate_left
  · intro W hW; have hW0 := Ext.trans E1dd.out hW; clear hW; go_simp <;> with_reducible rfl
  try simp only [Act.put, List.setIfInBounds_toArray, List.set_cons_zero, List.set_cons_succ]
  refine ext_take (i := 4) (v := ?_) rfl (by kernel_rfl) (by kernel_rfl) (by kernel_rfl) (fun _ _ _ h => h) (by rfl) ?_ ?_
  rotate_left
  · intro W hW; have hW0 := Ext.trans E1dd.out hW; clear hW; go_simp <;> with_reducible rfl
  try simp only [Act.put, List.setIfInBounds_toArray, List.set_cons_zero, List.set_cons_succ]
  refine ext_take (i := 5) (v := ?_) rfl (by kernel_rfl) (by kernel_rfl) (by kernel_rfl) (fun _ _ _ h => h) (by rfl) ?_ ?_
  rotate_left
  · intro W hW; have hW0 := Ext.trans E1dd.out hW; clear hW; go_simp <;> with_reducible rfl
  try simp only [Act.put, List.setIfInBounds_toArray, List.set_cons_zero, List.set_cons_succ]
  refine ext_take (i := 6) (v := ?_) rfl (by kernel_rfl) (by kernel_rfl) (by kernel_rfl) (fun _ _ _ h => h) (by rfl) ?_ ?_
  rotate_left
  · intro W hW; have hW0 := Ext.trans E1dd.out hW; clear hW; go_simp <;> with_reducible rfl
  try simp only [Act.put, List.setIfInBounds_toArray, List.set_cons_zero, List.set_cons_succ]
  refine ext_take (i := 7) (v := ?_) rfl (by kernel_rfl) (by kernel_rfl) (by kernel_rfl) (fun _ _ _ h => h) (by rfl) ?_ ?_
  rotate_left
  · intro W hW; have hW0 := Ext.trans E1dd.out hW; clear hW; go_simp <;> with_reducible rfl
  try simp only [Act.put, List.setIfInBounds_toArray, List.set_cons_zero, List.set_cons_succ]
  refine ext_call (i := 8) rfl (by kernel_rfl) (by rfl) (fun K' hK => ?_)
  go_simp
  (go_at_call 36; (with_reducible refine (CW.out _).mono ?_); rintro e w2 ⟨rfl, hx⟩; refine hK _ _ hx ?_; clear hK)
  have Ew2 := Lib.hid (Ext.trans E1dd.out hx)
  clear hx
  try simp only [Act.put, List.setIfInBounds_toArray, List.set_cons_zero, List.set_cons_succ]
  refine ext_take (i := 9) (v := ?_) rfl (by kernel_rfl) (by kernel_rfl) (by kernel_rfl) (fun _ _ _ h => h) (by rfl) ?_ ?_
  rotate_left
  · intro W hW; have hW0 := Ext.trans Ew2.out hW; clear hW; go_simp <;> with_reducible rfl
  try simp only [Act.put, List.setIfInBounds_toArray, List.set_cons_zero, List.set_cons_succ]
  refine ext_take (i := 10) (v := ?_) rfl (by kernel_rfl) (by kernel_rfl) (by kernel_rfl) (fun _ _ _ h => h) (by rfl) ?_ ?_
  rotate_left
  · intro W hW; have hW0 := Ext.trans Ew2.out hW; clear hW; go_simp <;> with_reducible rfl
  try simp only [Act.put, List.setIfInBounds_toArray, List.set_cons_zero, List.set_cons_succ]
  refine wpAnyH_done (by kernel_rfl) ?_ _
  have EX := Lib.hid Ew2.out
  clear E1d Ew2
  try go_wp2_with fail
  try go_ret
  exact hD.out _ _ ⟨rfl, Ext.trans X0.out EX.out⟩

set_option maxRecDepth 4000 in
set_option maxHeartbeats 8000000 in
theorem ask_ok3 (base P : Nat) (G : Option Nat) (st : Ps) (s k i m : Int) (d : ByteArray) (w : World) (H : PAt w base P G st) (hd : d.size ≤ maxLen) (hm : mayReqB 3 s k i m d.size = true) (hs : st.w 3 = none) (ht : st.la 3 < s) (hn : st.acts.length ≤ 1000000) :
    Calls Try.prog 11 #[.pointer (some ⟨P, 0, none⟩), .agg #[.int .i64 3, .int .i64 s, .int .i64 k, .int .i64 i, .int .i64 m, .string d]] w fun e w' => e = .returned (.int .i64 0) ∧ POut w w' base P G (askS st ⟨3, s, k, i, m, d⟩) := by
  refine hide_post fun D hD => ?_
  have hsel := H.sel
  have hlt := H.lt
  obtain ⟨hbP, v, l0, l1, l2, l3, p0, p1, p2, p3, o0, o1, o2, o3, L, kP, hl, hw, hwt, hown, hG, hL, hin⟩ := H
  obtain ⟨w0, hw0⟩ : ∃ w0, w0 = w.alloc (.cells #[.int .i64 3, .int .i64 s, .int .i64 k, .int .i64 i, .int .i64 m, .string d] 29) := ⟨_, rfl⟩
  have hb0 : Ext w w0 := by rw [hw0]; exact Ext.alloc _ _
  have KQ : Hid (Blk w0 w.heap.size 29 #[.int .i64 3, .int .i64 s, .int .i64 k, .int .i64 i, .int .i64 m, .string d]) := by show Blk _ _ _ _; rw [hw0]; exact Blk.new _ _ _
  have CM : Hid (∀ V, Calls Try.prog 35 #[.agg #[.int .i64 3, .int .i64 s, .int .i64 k, .int .i64 i, .int .i64 m, .string d]] V fun e w' => e = .returned (.bool true) ∧ Ext V w') := fun V => by rw [← hm]; exact mayReq_any 3 s k i m d V hd
  have X0 : Hid (Ext w w0) := hb0
  have HW := Lib.hid hw0
  have ho : o3 = none := by unfold Ps.w at hs; rw [hw] at hs; exact hs
  have hlc : l3 = st.la 3 := by unfold Ps.la; rw [hl]; rfl
  obtain rfl : p3 = .pointer none := by have h5 := hwt.2.2.2; rw [ho] at h5; exact h5
  rw [← hlc] at ht
  have CW : Hid (∀ V, Calls Try.prog 36 #[.agg #[.int .i64 3, .int .i64 s, .int .i64 k, .int .i64 i, .int .i64 m, .string d], .int .i64 l3] V fun e w' => e = .returned (.bool true) ∧ Ext V w') := fun V => by
    have h5 := newer_any 3 s k i m d l3 V hd
    rw [hm, Bool.true_and, decide_eq_true ht] at h5
    exact h5
  have y0 : ∀ V, Ext w0 V → V.cell? ⟨P, 0, none⟩ = some (v) := fun V h => (((kP.stay hb0).stay h)).cell 0
  have y4 : ∀ V, Ext w0 V → V.cell? ⟨P, 4, none⟩ = some (.int .i64 l3) := fun V h => (((kP.stay hb0).stay h)).cell 4
  have y8 : ∀ V, Ext w0 V → V.cell? ⟨P, 8, none⟩ = some (.pointer none) := fun V h => (((kP.stay hb0).stay h)).cell 8
  have z0 : ∀ V, Ext w0 V → V.cell? ⟨w.heap.size, 0, none⟩ = some (.int .i64 3) := fun V h => ((KQ.out.stay h)).cell 0
  have z1 : ∀ V, Ext w0 V → V.cell? ⟨w.heap.size, 1, none⟩ = some (.int .i64 s) := fun V h => ((KQ.out.stay h)).cell 1
  have z2 : ∀ V, Ext w0 V → V.cell? ⟨w.heap.size, 2, none⟩ = some (.int .i64 k) := fun V h => ((KQ.out.stay h)).cell 2
  have z3 : ∀ V, Ext w0 V → V.cell? ⟨w.heap.size, 3, none⟩ = some (.int .i64 i) := fun V h => ((KQ.out.stay h)).cell 3
  have z4 : ∀ V, Ext w0 V → V.cell? ⟨w.heap.size, 4, none⟩ = some (.int .i64 m) := fun V h => ((KQ.out.stay h)).cell 4
  have z5 : ∀ V, Ext w0 V → V.cell? ⟨w.heap.size, 5, none⟩ = some (.string d) := fun V h => ((KQ.out.stay h)).cell 5
  have hLn : L.length ≤ 1000000000 := by have h5 := congrArg List.length hL; rw [List.length_map] at h5; omega
  have HLN : Hid (L.length ≤ 1000000000) := hLn
  have HKP := Lib.hid (kP.stay hb0)
  have HKPw := Lib.hid kP
  have HOWNw := Lib.hid hown
  have HWT := Lib.hid hwt
  have HOWN := Lib.hid hown
  have HG : Hid (v.ownBlock = G) := hG
  have HL := Lib.hid hL
  have HIN := Lib.hid hin
  have HBP : Hid (base ≤ P) := hbP
  have HBS : Hid (base ≤ w.heap.size) := Nat.le_trans hbP (Nat.le_of_lt hlt)
  have HLT : Hid (P < w.heap.size) := hlt
  have HLS := Lib.hid hl
  have HWS := Lib.hid hw
  have HNP : Hid (¬ some P = G) := fun e => by
    obtain ⟨cs, hc⟩ := own_blk hown (hG.trans e.symm)
    exact Blk.apart kP hc (by decide) rfl
  clear hb0 hw0 kP hl hw hwt hown hG hL hin hm hd hs ht ho hlc hlt hsel hbP hLn
  obtain ⟨g, hg⟩ : ∃ g, g = w.heap.size := ⟨_, rfl⟩
  have HGG := Lib.hid hg
  rw [← hg] at KQ z0 z1 z2 z3 z4 z5
  go_enter Try.func11, Try.ntmps11
  go_wp2_with (go_at_call 35; rw [← HW.out]; (with_reducible refine (CM.out _).mono ?_); rintro e w1 ⟨rfl, hx⟩; have E1 : Hid (Ext w0 w1) := hx; clear hx)
  rw [← HGG.out]
  clear hg
  refine ext_begin (by kernel_rfl) ?_
  have E1d := Lib.hid (Ext.drewR E1.out)
  refine ext_take (i := 0) (v := ?_) rfl (by kernel_rfl) (by kernel_rfl) (by kernel_rfl) (fun _ _ _ h => h) (by rfl) ?_ ?_
  rotate_left
  · intro W hW; have hW0 := Ext.trans E1d.out hW; clear hW; go_simp <;> with_reducible rfl
  try simp only [Act.put, List.setIfInBounds_toArray, List.set_cons_zero, List.set_cons_succ]
  refine ext_take (i := 1) (v := ?_) rfl (by kernel_rfl) (by kernel_rfl) (by kernel_rfl) (fun _ _ _ h => h) (by rfl) ?_ ?_
  rotate_left
  · intro W hW; have hW0 := Ext.trans E1d.out hW; clear hW; go_simp <;> with_reducible rfl
  try simp only [Act.put, List.setIfInBounds_toArray, List.set_cons_zero, List.set_cons_succ]
  refine ext_take (i := 2) (v := ?_) rfl (by kernel_rfl) (by kernel_rfl) (by kernel_rfl) (fun _ _ _ h => h) (by rfl) ?_ ?_
  rotate_left
  · intro W hW; have hW0 := Ext.trans E1d.out hW; clear hW; go_simp <;> with_reducible rfl
  try simp only [Act.put, List.setIfInBounds_toArray, List.set_cons_zero, List.set_cons_succ]
  refine ext_take (i := 3) (v := ?_) rfl (by kernel_rfl) (by kernel_rfl) (by kernel_rfl) (fun _ _ _ h => h) (by rfl) ?_ ?_
  rotate_left
  · intro W hW; have hW0 := Ext.trans E1d.out hW; clear hW; go_simp <;> with_reducible rfl
  try simp only [Act.put, List.setIfInBounds_toArray, List.set_cons_zero, List.set_cons_succ]
  refine ext_take (i := 4) (v := ?_) rfl (by kernel_rfl) (by kernel_rfl) (by kernel_rfl) (fun _ _ _ h => h) (by rfl) ?_ ?_
  rotate_left
  · intro W hW; have hW0 := Ext.trans E1d.out hW; clear hW; go_simp <;> with_reducible rfl
  try simp only [Act.put, List.setIfInBounds_toArray, List.set_cons_zero, List.set_cons_succ]
  refine ext_take (i := 5) (v := ?_) rfl (by kernel_rfl) (by kernel_rfl) (by kernel_rfl) (fun _ _ _ h => h) (by rfl) ?_ ?_
  rotate_left
  · intro W hW; have hW0 := Ext.trans E1d.out hW; clear hW; go_simp <;> with_reducible rfl
  try simp only [Act.put, List.setIfInBounds_toArray, List.set_cons_zero, List.set_cons_succ]
  refine ext_take (i := 6) (v := ?_) rfl (by kernel_rfl) (by kernel_rfl) (by kernel_rfl) (fun _ _ _ h => h) (by rfl) ?_ ?_
  rotate_left
  · intro W hW; have hW0 := Ext.trans E1d.out hW; clear hW; go_simp <;> with_reducible rfl
  try simp only [Act.put, List.setIfInBounds_toArray, List.set_cons_zero, List.set_cons_succ]
  refine ext_take (i := 7) (v := ?_) rfl (by kernel_rfl) (by kernel_rfl) (by kernel_rfl) (fun _ _ _ h => h) (by rfl) ?_ ?_
  rotate_left
  · intro W hW; have hW0 := Ext.trans E1d.out hW; clear hW; go_simp <;> with_reducible rfl
  try simp only [Act.put, List.setIfInBounds_toArray, List.set_cons_zero, List.set_cons_succ]
  refine ext_take (i := 8) (v := ?_) rfl (by kernel_rfl) (by kernel_rfl) (by kernel_rfl) (fun _ _ _ h => h) (by rfl) ?_ ?_
  rotate_left
  · intro W hW; have hW0 := Ext.trans E1d.out hW; clear hW; go_simp <;> with_reducible rfl
  try simp only [Act.put, List.setIfInBounds_toArray, List.set_cons_zero, List.set_cons_succ]
  refine wpAnyH_done (by kernel_rfl) ?_ _
  try go_wp2_with fail
  refine ext_begin (by kernel_rfl) ?_
  have E1dd := Lib.hid (Ext.drewR E1d.out)
  refine ext_take (i := 0) (v := ?_) rfl (by kernel_rfl) (by kernel_rfl) (by kernel_rfl) (fun _ _ _ h => h) (by rfl) ?_ ?_
  rotate_left
  · intro W hW; have hW0 := Ext.trans E1dd.out hW; clear hW; go_simp <;> with_reducible rfl
  try simp only [Act.put, List.setIfInBounds_toArray, List.set_cons_zero, List.set_cons_succ]
  refine ext_take (i := 1) (v := ?_) rfl (by kernel_rfl) (by kernel_rfl) (by kernel_rfl) (fun _ _ _ h => h) (by rfl) ?_ ?_
  rotate_left
  · intro W hW; have hW0 := Ext.trans E1dd.out hW; clear hW; go_simp <;> with_reducible rfl
  try simp only [Act.put, List.setIfInBounds_toArray, List.set_cons_zero, List.set_cons_succ]
  refine ext_take (i := 2) (v := ?_) rfl (by kernel_rfl) (by kernel_rfl) (by kernel_rfl) (fun _ _ _ h => h) (by rfl) ?_ ?_
  rotate_left
  · intro W hW; have hW0 := Ext.trans E1dd.out hW; clear hW; go_simp <;> with_reducible rfl
  try simp only [Act.put, List.setIfInBounds_toArray, List.set_cons_zero, List.set_cons_succ]
  refine ext_take (i := 3) (v := ?_) rfl (by kernel_rfl) (by kernel_rfl) (by kernel_rfl) (fun _ _ _ h => h) (by rfl) ?_ ?_
  rotate_left
  · intro W hW; have hW0 := Ext.trans E1dd.out hW; clear hW; go_simp <;> with_reducible rfl
  try simp only [Act.put, List.setIfInBounds_toArray, List.set_cons_zero, List.set_cons_succ]
  refine ext_take (i := 4) (v := ?_) rfl (by kernel_rfl) (by kernel_rfl) (by kernel_rfl) (fun _ _ _ h => h) (by rfl) ?_ ?_
  rotate_left
  · intro W hW; have hW0 := Ext.trans E1dd.out hW; clear hW; go_simp <;> with_reducible rfl
  try simp only [Act.put, List.setIfInBounds_toArray, List.set_cons_zero, List.set_cons_succ]
  refine ext_take (i := 5) (v := ?_) rfl (by kernel_rfl) (by kernel_rfl) (by kernel_rfl) (fun _ _ _ h => h) (by rfl) ?_ ?_
  rotate_left
  · intro W hW; have hW0 := Ext.trans E1dd.out hW; clear hW; go_simp <;> with_reducible rfl
  try simp only [Act.put, List.setIfInBounds_toArray, List.set_cons_zero, List.set_cons_succ]
  refine ext_take (i := 6) (v := ?_) rfl (by kernel_rfl) (by kernel_rfl) (by kernel_rfl) (fun _ _ _ h => h) (by rfl) ?_ ?_
  rotate_left
  · intro W hW; have hW0 := Ext.trans E1dd.out hW; clear hW; go_simp <;> with_reducible rfl
  try simp only [Act.put, List.setIfInBounds_toArray, List.set_cons_zero, List.set_cons_succ]
  refine ext_take (i := 7) (v := ?_) rfl (by kernel_rfl) (by kernel_rfl) (by kernel_rfl) (fun _ _ _ h => h) (by rfl) ?_ ?_
  rotate_left
  · intro W hW; have hW0 := Ext.trans E1dd.out hW; clear hW; go_simp <;> with_reducible rfl
  try simp only [Act.put, List.setIfInBounds_toArray, List.set_cons_zero, List.set_cons_succ]
  refine ext_call (i := 8) rfl (by kernel_rfl) (by rfl) (fun K' hK => ?_)
  go_simp
  (go_at_call 36; (with_reducible refine (CW.out _).mono ?_); rintro e w2 ⟨rfl, hx⟩; refine hK _ _ hx ?_; clear hK)
  have Ew2 := Lib.hid (Ext.trans E1dd.out hx)
  clear hx
  try simp only [Act.put, List.setIfInBounds_toArray, List.set_cons_zero, List.set_cons_succ]
  refine ext_take (i := 9) (v := ?_) rfl (by kernel_rfl) (by kernel_rfl) (by kernel_rfl) (fun _ _ _ h => h) (by rfl) ?_ ?_
  rotate_left
  · intro W hW; have hW0 := Ext.trans Ew2.out hW; clear hW; go_simp <;> with_reducible rfl
  try simp only [Act.put, List.setIfInBounds_toArray, List.set_cons_zero, List.set_cons_succ]
  refine ext_take (i := 10) (v := ?_) rfl (by kernel_rfl) (by kernel_rfl) (by kernel_rfl) (fun _ _ _ h => h) (by rfl) ?_ ?_
  rotate_left
  · intro W hW; have hW0 := Ext.trans Ew2.out hW; clear hW; go_simp <;> with_reducible rfl
  try simp only [Act.put, List.setIfInBounds_toArray, List.set_cons_zero, List.set_cons_succ]
  refine wpAnyH_done (by kernel_rfl) ?_ _
  try go_wp2_with fail
  obtain ⟨Wa, hWa⟩ : ∃ Wa, Wa = w2 := ⟨_, rfl⟩
  rw [← hWa] at Ew2 ⊢
  clear hWa
  have HKQa := Lib.hid (KQ.out.stay Ew2.out)
  have KPa := Lib.hid (HKP.out.stay Ew2.out)
  have hgne : ¬ g = P := by have h1 := HGG.out; have h2 := HLT.out; omega
  have KP : Hid (Blk Wa.drew P 77 #[v, .int .i64 l0, .int .i64 l1, .int .i64 l2, .int .i64 l3, p0, p1, p2, .pointer none]) := KPa.out.drew
  have E0f : Hid (Frm (fun k => k = P) Wa Wa.drew) := (Frm.refl _ _).drew
  have EaX : Hid (Ext w Wa) := Ext.trans X0.out Ew2.out
  clear y0 y4 y8 z0 z1 z2 z3 z4 z5 E1d
  have z0 : ∀ V, Frm (fun k => k = P) Wa V → V.cell? ⟨g, 0, none⟩ = some (.int .i64 3) := fun V h => ((HKQa.out.frm h hgne)).cell 0
  have z1 : ∀ V, Frm (fun k => k = P) Wa V → V.cell? ⟨g, 1, none⟩ = some (.int .i64 s) := fun V h => ((HKQa.out.frm h hgne)).cell 1
  have z2 : ∀ V, Frm (fun k => k = P) Wa V → V.cell? ⟨g, 2, none⟩ = some (.int .i64 k) := fun V h => ((HKQa.out.frm h hgne)).cell 2
  have z3 : ∀ V, Frm (fun k => k = P) Wa V → V.cell? ⟨g, 3, none⟩ = some (.int .i64 i) := fun V h => ((HKQa.out.frm h hgne)).cell 3
  have z4 : ∀ V, Frm (fun k => k = P) Wa V → V.cell? ⟨g, 4, none⟩ = some (.int .i64 m) := fun V h => ((HKQa.out.frm h hgne)).cell 4
  have z5 : ∀ V, Frm (fun k => k = P) Wa V → V.cell? ⟨g, 5, none⟩ = some (.string d) := fun V h => ((HKQa.out.frm h hgne)).cell 5
  refine rz_begin (fun k => k = P) [] (by kernel_rfl) ?_
  refine rz_take [8, 9, 10, 11, 14, 15] (i := 0) (v := ?_) rfl (by kernel_rfl) (by kernel_rfl) (by kernel_rfl) (by kernel_rfl) (by kernel_rfl) (by kernel_rfl) (fun _ _ _ h => h) (by rfl) ?_ ?_
  rotate_left
  · intro W hW; have hW0 := Frm.tr E0f.out hW; clear hW; go_simp <;> with_reducible rfl
  try simp only [Act.put, List.setIfInBounds_toArray, List.set_cons_zero, List.set_cons_succ]
  refine rz_take [2, 10, 11, 14, 15] (i := 1) (v := ?_) rfl (by kernel_rfl) (by kernel_rfl) (by kernel_rfl) (by kernel_rfl) (by kernel_rfl) (by kernel_rfl) (fun _ _ _ h => h) (by rfl) ?_ ?_
  rotate_left
  · intro W hW; have hW0 := Frm.tr E0f.out hW; clear hW; go_simp <;> with_reducible rfl
  try simp only [Act.put, List.setIfInBounds_toArray, List.set_cons_zero, List.set_cons_succ]
  refine rz_take [10, 11, 14, 15] (i := 2) (v := ?_) rfl (by kernel_rfl) (by kernel_rfl) (by kernel_rfl) (by kernel_rfl) (by kernel_rfl) (by kernel_rfl) (fun _ _ _ h => h) (by rfl) ?_ ?_
  rotate_left
  · intro W hW; have hW0 := Frm.tr E0f.out hW; clear hW; go_simp <;> with_reducible rfl
  try simp only [Act.put, List.setIfInBounds_toArray, List.set_cons_zero, List.set_cons_succ]
  refine rz_take [12, 13, 14, 15] (i := 3) (v := ?_) rfl (by kernel_rfl) (by kernel_rfl) (by kernel_rfl) (by kernel_rfl) (by kernel_rfl) (by kernel_rfl) (fun _ _ _ h => h) (by rfl) ?_ ?_
  rotate_left
  · intro W hW; have hW0 := Frm.tr E0f.out hW; clear hW; go_simp <;> with_reducible rfl
  try simp only [Act.put, List.setIfInBounds_toArray, List.set_cons_zero, List.set_cons_succ]
  refine rz_take [5, 10, 11, 14, 15] (i := 4) (v := ?_) rfl (by kernel_rfl) (by kernel_rfl) (by kernel_rfl) (by kernel_rfl) (by kernel_rfl) (by kernel_rfl) (fun _ _ _ h => h) (by rfl) ?_ ?_
  rotate_left
  · intro W hW; have hW0 := Frm.tr E0f.out hW; clear hW; go_simp <;> with_reducible rfl
  try simp only [Act.put, List.setIfInBounds_toArray, List.set_cons_zero, List.set_cons_succ]
  refine rz_take [10, 11, 14, 15] (i := 5) (v := ?_) rfl (by kernel_rfl) (by kernel_rfl) (by kernel_rfl) (by kernel_rfl) (by kernel_rfl) (by kernel_rfl) (fun _ _ _ h => h) (by rfl) ?_ ?_
  rotate_left
  · intro W hW; have hW0 := Frm.tr E0f.out hW; clear hW; go_simp <;> with_reducible rfl
  try simp only [Act.put, List.setIfInBounds_toArray, List.set_cons_zero, List.set_cons_succ]
  refine rz_take [7, 10, 11, 14, 15] (i := 6) (v := ?_) rfl (by kernel_rfl) (by kernel_rfl) (by kernel_rfl) (by kernel_rfl) (by kernel_rfl) (by kernel_rfl) (fun _ _ _ h => h) (by rfl) ?_ ?_
  rotate_left
  · intro W hW; have hW0 := Frm.tr E0f.out hW; clear hW; go_simp <;> with_reducible rfl
  try simp only [Act.put, List.setIfInBounds_toArray, List.set_cons_zero, List.set_cons_succ]
  refine rz_take [10, 11, 14, 15] (i := 7) (v := ?_) rfl (by kernel_rfl) (by kernel_rfl) (by kernel_rfl) (by kernel_rfl) (by kernel_rfl) (by kernel_rfl) (fun _ _ _ h => h) (by rfl) ?_ ?_
  rotate_left
  · intro W hW; have hW0 := Frm.tr E0f.out hW; clear hW; go_simp <;> with_reducible rfl
  try simp only [Act.put, List.setIfInBounds_toArray, List.set_cons_zero, List.set_cons_succ]
  refine rz_take [9, 10, 11, 14, 15] (i := 8) (v := ?_) rfl (by kernel_rfl) (by kernel_rfl) (by kernel_rfl) (by kernel_rfl) (by kernel_rfl) (by kernel_rfl) (fun _ _ _ h => h) (by rfl) ?_ ?_
  rotate_left
  · intro W hW; have hW0 := Frm.tr E0f.out hW; clear hW; go_simp <;> with_reducible rfl
  try simp only [Act.put, List.setIfInBounds_toArray, List.set_cons_zero, List.set_cons_succ]
  refine rz_take [10, 11, 14, 15] (i := 9) (v := ?_) rfl (by kernel_rfl) (by kernel_rfl) (by kernel_rfl) (by kernel_rfl) (by kernel_rfl) (by kernel_rfl) (fun _ _ _ h => h) (by rfl) ?_ ?_
  rotate_left
  · intro W hW; have hW0 := Frm.tr E0f.out hW; clear hW; go_simp <;> with_reducible rfl
  try simp only [Act.put, List.setIfInBounds_toArray, List.set_cons_zero, List.set_cons_succ]
  refine rz_take [11, 14, 15] (i := 10) (v := ?_) rfl (by kernel_rfl) (by kernel_rfl) (by kernel_rfl) (by kernel_rfl) (by kernel_rfl) (by kernel_rfl) (fun _ _ _ h => h) (by rfl) ?_ ?_
  rotate_left
  · intro W hW; have hW0 := Frm.tr E0f.out hW; clear hW; go_simp <;> with_reducible rfl
  try simp only [Act.put, List.setIfInBounds_toArray, List.set_cons_zero, List.set_cons_succ]
  refine rz_take [13, 14, 15] (i := 12) (v := ?_) rfl (by kernel_rfl) (by kernel_rfl) (by kernel_rfl) (by kernel_rfl) (by kernel_rfl) (by kernel_rfl) (fun _ _ _ h => h) (by rfl) ?_ ?_
  rotate_left
  · intro W hW; have hW0 := Frm.tr E0f.out hW; clear hW; go_simp <;> with_reducible rfl
  try simp only [Act.put, List.setIfInBounds_toArray, List.set_cons_zero, List.set_cons_succ]
  refine rz_take [14, 15] (i := 13) (v := ?_) rfl (by kernel_rfl) (by kernel_rfl) (by kernel_rfl) (by kernel_rfl) (by kernel_rfl) (by kernel_rfl) (fun _ _ _ h => h) (by rfl) ?_ ?_
  rotate_left
  · intro W hW; have hW0 := Frm.tr E0f.out hW; clear hW; go_simp <;> with_reducible rfl
  try simp only [Act.put, List.setIfInBounds_toArray, List.set_cons_zero, List.set_cons_succ]
  refine rz_call (i := 11) rfl (by kernel_rfl) (by rfl) (fun K hK => ?_)
  have q1 := KP.out.frozen 8
  have r1 := KP.out.cell 8
  simp at r1
  go_simp
  refine hK _ _ (Frm.of_set _ _ _ rfl) ?_; clear hK K q1 r1
  obtain ⟨W1, hW1⟩ : ∃ W1, W1 = (Wa.setCell ⟨P, 8, none⟩ (.pointer (some ⟨g, 0, none⟩))).drew := ⟨_, rfl⟩
  have KP1 : Hid (Blk W1 P 77 #[v, .int .i64 l0, .int .i64 l1, .int .i64 l2, .int .i64 l3, p0, p1, p2, .pointer (some ⟨g, 0, none⟩)]) := by (show Blk _ _ _ _); rw [hW1]; exact KP.out.set 8 _
  have F1 : Hid (Frm (fun k => k = P) Wa.drew W1) := by (show Frm _ _ _); rw [hW1]; exact Frm.of_set (s := fun k => k = P) Wa.drew ⟨P, 8, none⟩ _ rfl
  have E8 : Hid (Frm (fun k => k = P) Wa W1) := Frm.tr E0f.out F1.out
  try rw [← hW1]
  clear hW1
  try simp only [Act.put, List.setIfInBounds_toArray, List.set_cons_zero, List.set_cons_succ]
  refine rz_take [15] (i := 14) (v := ?_) rfl (by kernel_rfl) (by kernel_rfl) (by kernel_rfl) (by kernel_rfl) (by kernel_rfl) (by kernel_rfl) (fun _ _ _ h => h) (by rfl) ?_ ?_
  rotate_left
  · intro W hW; have hW0 := Frm.tr E8.out hW; clear hW; go_simp <;> with_reducible rfl
  try simp only [Act.put, List.setIfInBounds_toArray, List.set_cons_zero, List.set_cons_succ]
  refine rz_call (i := 15) rfl (by kernel_rfl) (by rfl) (fun K hK => ?_)
  have q1 := KP1.out.frozen 4
  have r1 := KP1.out.cell 4
  simp at r1
  go_simp
  refine hK _ _ (Frm.of_set _ _ _ rfl) ?_; clear hK K q1 r1
  obtain ⟨W2, hW2⟩ : ∃ W2, W2 = W1.setCell ⟨P, 4, none⟩ (.int .i64 s) := ⟨_, rfl⟩
  have KP2 : Hid (Blk W2 P 77 #[v, .int .i64 l0, .int .i64 l1, .int .i64 l2, .int .i64 s, p0, p1, p2, .pointer (some ⟨g, 0, none⟩)]) := by (show Blk _ _ _ _); rw [hW2]; exact KP1.out.set 4 _
  have F2 : Hid (Frm (fun k => k = P) Wa.drew W2) := by (show Frm _ _ _); rw [hW2]; exact Frm.tr F1.out (Frm.of_set _ _ _ rfl)
  have E9 : Hid (Frm (fun k => k = P) Wa W2) := Frm.tr E0f.out (Frm.tr (Frm.refl _ _) F2.out)
  try rw [← hW2]
  clear hW2
  try simp only [Act.put, List.setIfInBounds_toArray, List.set_cons_zero, List.set_cons_succ]
  refine rz_done (by kernel_rfl) ?_ _
  try go_wp2_with fail
  have EP2 : Hid (Frm (fun k => k = P) w W2) := Frm.tr (Frm.of_below EaX.out _) E9.out
  have HKQ2 := Lib.hid (HKQa.out.frm E9.out hgne)
  have HOWN2 := Lib.hid (own_frmN HOWN.out EP2.out (fun k hk e => HNP.out (by rw [← e, ← hk]; exact HG.out)))
  clear z0 z1 z2 z3 z4 z5
  have hgG : ¬ some g = G := fun e => by
    obtain ⟨cs, hc⟩ := own_blk HOWN2.out (HG.out.trans e.symm)
    exact Blk.apart HKQ2.out hc (by decide) rfl
  have z0 : ∀ V, Frm (fun k => some k = G) W2 V → V.cell? ⟨g, 0, none⟩ = some (.int .i64 3) := fun V h => ((HKQ2.out.frm h hgG)).cell 0
  have z1 : ∀ V, Frm (fun k => some k = G) W2 V → V.cell? ⟨g, 1, none⟩ = some (.int .i64 s) := fun V h => ((HKQ2.out.frm h hgG)).cell 1
  have z2 : ∀ V, Frm (fun k => some k = G) W2 V → V.cell? ⟨g, 2, none⟩ = some (.int .i64 k) := fun V h => ((HKQ2.out.frm h hgG)).cell 2
  have z3 : ∀ V, Frm (fun k => some k = G) W2 V → V.cell? ⟨g, 3, none⟩ = some (.int .i64 i) := fun V h => ((HKQ2.out.frm h hgG)).cell 3
  have z4 : ∀ V, Frm (fun k => some k = G) W2 V → V.cell? ⟨g, 4, none⟩ = some (.int .i64 m) := fun V h => ((HKQ2.out.frm h hgG)).cell 4
  have z5 : ∀ V, Frm (fun k => some k = G) W2 V → V.cell? ⟨g, 5, none⟩ = some (.string d) := fun V h => ((HKQ2.out.frm h hgG)).cell 5
  have y0 : ∀ V, Frm (fun k => some k = G) W2 V → V.cell? ⟨P, 0, none⟩ = some (v) := fun V h => (KP2.out.frm h HNP.out).cell 0
  have Xe : Hid (Ext W2 W2.drew) := (Ext.refl _).drewR
  have E0g : Hid (Frm (fun k => some k = G) W2 W2.drew) := Frm.of_below Xe.out _
  refine rz_begin (fun k => some k = G) [15] (by kernel_rfl) ?_
  refine rz_take [13, 14, 15] (i := 0) (v := ?_) rfl (by kernel_rfl) (by kernel_rfl) (by kernel_rfl) (by kernel_rfl) (by kernel_rfl) (by kernel_rfl) (fun _ _ _ h => h) (by rfl) ?_ ?_
  rotate_left
  · intro W hW; have hW0 := Frm.tr E0g.out hW; clear hW; go_simp <;> with_reducible rfl
  try simp only [Act.put, List.setIfInBounds_toArray, List.set_cons_zero, List.set_cons_succ]
  refine rz_take [2, 3, 4, 12, 13, 14, 15] (i := 1) (v := ?_) rfl (by kernel_rfl) (by kernel_rfl) (by kernel_rfl) (by kernel_rfl) (by kernel_rfl) (by kernel_rfl) (fun _ _ _ h => h) (by rfl) ?_ ?_
  rotate_left
  · intro W hW; have hW0 := Frm.tr E0g.out hW; clear hW; go_simp <;> with_reducible rfl
  try simp only [Act.put, List.setIfInBounds_toArray, List.set_cons_zero, List.set_cons_succ]
  refine rz_take [3, 4, 12, 13, 14, 15] (i := 2) (v := ?_) rfl (by kernel_rfl) (by kernel_rfl) (by kernel_rfl) (by kernel_rfl) (by kernel_rfl) (by kernel_rfl) (fun _ _ _ h => h) (by rfl) ?_ ?_
  rotate_left
  · intro W hW; have hW0 := Frm.tr E0g.out hW; clear hW; go_simp <;> with_reducible rfl
  try simp only [Act.put, List.setIfInBounds_toArray, List.set_cons_zero, List.set_cons_succ]
  refine rz_take [4, 12, 13, 14, 15] (i := 3) (v := ?_) rfl (by kernel_rfl) (by kernel_rfl) (by kernel_rfl) (by kernel_rfl) (by kernel_rfl) (by kernel_rfl) (fun _ _ _ h => h) (by rfl) ?_ ?_
  rotate_left
  · intro W hW; have hW0 := Frm.tr E0g.out hW; clear hW; go_simp <;> with_reducible rfl
  try simp only [Act.put, List.setIfInBounds_toArray, List.set_cons_zero, List.set_cons_succ]
  refine rz_take [12, 13, 14, 15] (i := 4) (v := ?_) rfl (by kernel_rfl) (by kernel_rfl) (by kernel_rfl) (by kernel_rfl) (by kernel_rfl) (by kernel_rfl) (fun _ _ _ h => h) (by rfl) ?_ ?_
  rotate_left
  · intro W hW; have hW0 := Frm.tr E0g.out hW; clear hW; go_simp <;> with_reducible rfl
  try simp only [Act.put, List.setIfInBounds_toArray, List.set_cons_zero, List.set_cons_succ]
  refine rz_take [6, 10, 11, 12, 13, 14, 15] (i := 5) (v := ?_) rfl (by kernel_rfl) (by kernel_rfl) (by kernel_rfl) (by kernel_rfl) (by kernel_rfl) (by kernel_rfl) (fun _ _ _ h => h) (by rfl) ?_ ?_
  rotate_left
  · intro W hW; have hW0 := Frm.tr E0g.out hW; clear hW; go_simp <;> with_reducible rfl
  try simp only [Act.put, List.setIfInBounds_toArray, List.set_cons_zero, List.set_cons_succ]
  refine rz_take [10, 11, 12, 13, 14, 15] (i := 6) (v := ?_) rfl (by kernel_rfl) (by kernel_rfl) (by kernel_rfl) (by kernel_rfl) (by kernel_rfl) (by kernel_rfl) (fun _ _ _ h => h) (by rfl) ?_ ?_
  rotate_left
  · intro W hW; have hW0 := Frm.tr E0g.out hW; clear hW; go_simp <;> with_reducible rfl
  try simp only [Act.put, List.setIfInBounds_toArray, List.set_cons_zero, List.set_cons_succ]
  refine rz_take [8, 10, 11, 12, 13, 14, 15] (i := 7) (v := ?_) rfl (by kernel_rfl) (by kernel_rfl) (by kernel_rfl) (by kernel_rfl) (by kernel_rfl) (by kernel_rfl) (fun _ _ _ h => h) (by rfl) ?_ ?_
  rotate_left
  · intro W hW; have hW0 := Frm.tr E0g.out hW; clear hW; go_simp <;> with_reducible rfl
  try simp only [Act.put, List.setIfInBounds_toArray, List.set_cons_zero, List.set_cons_succ]
  refine rz_take [10, 11, 12, 13, 14, 15] (i := 8) (v := ?_) rfl (by kernel_rfl) (by kernel_rfl) (by kernel_rfl) (by kernel_rfl) (by kernel_rfl) (by kernel_rfl) (fun _ _ _ h => h) (by rfl) ?_ ?_
  rotate_left
  · intro W hW; have hW0 := Frm.tr E0g.out hW; clear hW; go_simp <;> with_reducible rfl
  try simp only [Act.put, List.setIfInBounds_toArray, List.set_cons_zero, List.set_cons_succ]
  refine rz_take [10, 11, 12, 13, 14, 15] (i := 9) (v := ?_) rfl (by kernel_rfl) (by kernel_rfl) (by kernel_rfl) (by kernel_rfl) (by kernel_rfl) (by kernel_rfl) (fun _ _ _ h => h) (by rfl) ?_ ?_
  rotate_left
  · intro W hW; have hW0 := Frm.tr E0g.out hW; clear hW; go_simp <;> with_reducible rfl
  try simp only [Act.put, List.setIfInBounds_toArray, List.set_cons_zero, List.set_cons_succ]
  refine rz_take [11, 12, 13, 14, 15] (i := 10) (v := ?_) rfl (by kernel_rfl) (by kernel_rfl) (by kernel_rfl) (by kernel_rfl) (by kernel_rfl) (by kernel_rfl) (fun _ _ _ h => h) (by rfl) ?_ ?_
  rotate_left
  · intro W hW; have hW0 := Frm.tr E0g.out hW; clear hW; go_simp <;> with_reducible rfl
  try simp only [Act.put, List.setIfInBounds_toArray, List.set_cons_zero, List.set_cons_succ]
  refine rz_call (i := 11) rfl (by kernel_rfl) (by rfl) (fun K hK => ?_)
  go_simp
  refine hK _ _ (Frm.of_alloc _ _ _) ?_; clear hK K
  obtain ⟨W3, hW3⟩ : ∃ W3, W3 = (W2.alloc (.cells #[.int .i64 3, .int .i64 s, .bool false, .int .i64 3, .int .i64 s, .int .i64 k, .int .i64 i, .int .i64 m, .string d, .int .i64 0, .int .i64 0, .string ⟨#[]⟩, .slice none 0 0, .int .i64 0] 50)).drew := ⟨_, rfl⟩
  have KR3 : Hid (Blk W3 W2.drew.heap.size 50 #[.int .i64 3, .int .i64 s, .bool false, .int .i64 3, .int .i64 s, .int .i64 k, .int .i64 i, .int .i64 m, .string d, .int .i64 0, .int .i64 0, .string ⟨#[]⟩, .slice none 0 0, .int .i64 0]) := by (show Blk _ _ _ _); rw [hW3]; exact Blk.new W2.drew _ _
  have X3 : Hid (Ext W2.drew W3) := by (show Ext _ _); rw [hW3]; exact Ext.alloc W2.drew _
  have E3 : Hid (Frm (fun k => some k = G) W2 W3) := Frm.tr E0g.out (Frm.of_below X3.out _)
  try rw [← hW3]
  clear hW3
  try simp only [Act.put, List.setIfInBounds_toArray, List.set_cons_zero, List.set_cons_succ]
  refine rz_call (i := 12) rfl (by kernel_rfl) (by rfl) (fun K hK => ?_)
  refine wp_append_wide (.tmp 51) (.tmp 58) 26 rfl base 50 _ 14 144 Try.underlying26 info_act rfl (by decide) (by decide) v L.length (flatA L) rfl (own_frmN HOWN2.out (Frm.of_below (Ext.trans Xe.out X3.out) (fun _ => False)) (fun _ _ h => h)) W2.drew.heap.size [.int .i64 3, .int .i64 s, .bool false, .int .i64 3, .int .i64 s, .int .i64 k, .int .i64 i, .int .i64 m, .string d, .int .i64 0, .int .i64 0, .string ⟨#[]⟩, .slice none 0 0, .int .i64 0] rfl rfl KR3.out (by intro y hy; simp at hy; rcases hy with rfl | rfl | rfl | rfl | rfl | rfl | rfl | rfl | rfl | rfl | rfl | rfl | rfl | rfl <;> rfl) HLN.out (Nat.le_trans HBS.out (Nat.le_trans (Frm.tr EP2.out (Frm.of_below Xe.out _)).size X3.out.size)) ?_
  intro v2 W4 oo gg bb
  obtain ⟨A2, cap2, hv2⟩ := own_shape oo
  subst hv2
  refine hK _ _ (Frm.of_grown gg (fun k hk => hk.trans HG.out)) ?_; clear hK K
  have O4 := Lib.hid oo
  have G4 := Lib.hid gg
  have BB4 := Lib.hid bb
  have E4 : Hid (Frm (fun k => some k = G) W2 W4) := Frm.tr E3.out (Frm.of_grown gg (fun k hk => hk.trans HG.out))
  clear oo gg bb
  have KP4 : Hid (Blk W4 P 77 #[v, .int .i64 l0, .int .i64 l1, .int .i64 l2, .int .i64 s, p0, p1, p2, .pointer (some ⟨g, 0, none⟩)]) := KP2.out.frm E4.out (fun e => HNP.out e)
  try simp only [Act.put, List.setIfInBounds_toArray, List.set_cons_zero, List.set_cons_succ]
  refine rz_take [14, 15] (i := 13) (v := ?_) rfl (by kernel_rfl) (by kernel_rfl) (by kernel_rfl) (by kernel_rfl) (by kernel_rfl) (by kernel_rfl) (fun _ _ _ h => h) (by rfl) ?_ ?_
  rotate_left
  · intro W hW; have hW0 := Frm.tr E4.out hW; clear hW; go_simp <;> with_reducible rfl
  try simp only [Act.put, List.setIfInBounds_toArray, List.set_cons_zero, List.set_cons_succ]
  refine rz_take [15] (i := 14) (v := ?_) rfl (by kernel_rfl) (by kernel_rfl) (by kernel_rfl) (by kernel_rfl) (by kernel_rfl) (by kernel_rfl) (fun _ _ _ h => h) (by rfl) ?_ ?_
  rotate_left
  · intro W hW; have hW0 := Frm.tr E4.out hW; clear hW; go_simp <;> with_reducible rfl
  try simp only [Act.put, List.setIfInBounds_toArray, List.set_cons_zero, List.set_cons_succ]
  refine rz_last (i := 15) rfl (by kernel_rfl) (by rfl) (by rfl) (fun K hK => ?_)
  have q1 := KP4.out.frozen 0
  have r1 := KP4.out.cell 0
  simp at r1
  go_simp
  refine hK _ _ ?_; clear hK K q1 r1
  obtain ⟨W5, hW5⟩ : ∃ W5, W5 = W4.setCell ⟨P, 0, none⟩ (.slice A2 (L.length + 1) cap2) := ⟨_, rfl⟩
  have KP5 : Hid (Blk W5 P 77 #[.slice A2 (L.length + 1) cap2, .int .i64 l0, .int .i64 l1, .int .i64 l2, .int .i64 s, p0, p1, p2, .pointer (some ⟨g, 0, none⟩)]) := by (show Blk _ _ _ _); rw [hW5]; exact KP4.out.set 0 _
  have F5 : Hid (Frm (fun k => k = P) W4 W5) := by (show Frm _ _ _); rw [hW5]; exact Frm.of_set _ _ _ rfl
  try rw [← hW5]
  clear hW5
  try simp only [Act.put, List.setIfInBounds_toArray, List.set_cons_zero, List.set_cons_succ]
  refine rz_done (by kernel_rfl) ?_ _
  clear z0 z1 z2 z3 z4 z5 y0
  go_wp2_with fail
  try go_ret
  have hqq : ∀ k cs, Blk w k 29 cs ∨ Blk w k 3 cs → ¬ k = P := fun k cs h e => by
    subst e
    rcases h with h | h
    · exact Blk.apart HKPw.out h (by decide) rfl
    · exact Blk.apart HKPw.out h (by decide) rfl
  have hqg : ∀ k cs, Blk w k 29 cs ∨ Blk w k 3 cs → ¬ some k = G := fun k cs h e => by
    obtain ⟨cs', hc⟩ := own_blk HOWNw.out (HG.out.trans e.symm)
    rcases h with h | h
    · exact Blk.apart hc h (by decide) rfl
    · exact Blk.apart hc h (by decide) rfl
  have FA : Frm (Psel P G) w W5 := Frm.tr (EP2.out.mono (fun k hk => Or.inl hk)) (Frm.tr (E4.out.mono (fun k hk => Or.inr hk)) (F5.out.mono (fun k hk => Or.inl hk)))
  have hkeep : ∀ k t cs, t = 29 ∨ t = 3 → Blk w k t cs → Blk W5 k t cs := fun k t cs ht h => h.frm FA (fun hh => by
    rcases ht with rfl | rfl
    · rcases hh with hh | hh
      · exact hqq k cs (.inl h) hh
      · exact hqg k cs (.inl h) hh
    · rcases hh with hh | hh
      · exact hqq k cs (.inr h) hh
      · exact hqg k cs (.inr h) hh)
  have hq5 : ∀ g cs, Blk w g 29 cs → Blk W5 g 29 cs := fun k cs h => hkeep k _ cs (.inl rfl) h
  have hg5 : Blk W5 g 29 #[.int .i64 3, .int .i64 s, .int .i64 k, .int .i64 i, .int .i64 m, .string d] := ((HKQ2.out.frm E4.out hgG).frm F5.out hgne)
  obtain ⟨h40, h41, h42, h43⟩ := HWT.out
  have O5 : W5.ownsRow base 50 14 (.slice A2 (L.length + 1) cap2) (L ++ [At.mk (Ac.mk 3 s false (Rqv.mk 3 s k i m d) Rpv.zero 0) none 0]).length (flatA (L ++ [At.mk (Ac.mk 3 s false (Rqv.mk 3 s k i m d) Rpv.zero 0) none 0])) := by
    rw [flatA_append, List.length_append]
    exact own_frmN O4.out F5.out (fun k hk e => own_blkne O4.out KP4.out (by decide) k hk e)
  refine hD.out _ _ ⟨rfl, _, ⟨HBP.out, .slice A2 (L.length + 1) cap2, l0, l1, l2, s, p0, p1, p2, .pointer (some ⟨g, 0, none⟩), o0, o1, o2, some ⟨3, s, k, i, m, d⟩, L ++ [At.mk (Ac.mk 3 s false (Rqv.mk 3 s k i m d) Rpv.zero 0) none 0], KP5.out, ?_, ?_, ⟨h40.of hq5, h41.of hq5, h42.of hq5, ⟨g, rfl, hg5⟩⟩, O5, rfl, ?_, ?_⟩, FA, ?_⟩
  · show st.last.set 3 s = _
    rw [HLS.out]; rfl
  · show st.wait.set 3 (some ⟨3, s, k, i, m, d⟩) = _
    rw [HWS.out]; rfl
  · rw [List.map_append, HL.out]; rfl
  · intro t ht
    rw [List.mem_append, List.mem_singleton] at ht
    rcases ht with ht | rfl
    · exact (HIN.out t ht).of (fun k cs h => hkeep k _ cs (.inr rfl) h)
    · exact In.nil _
  · rcases BB4.out with h5 | h5
    · exact .inl (h5.trans HG.out)
    · exact .inr ⟨_, h5, Nat.le_trans EaX.out.size (Nat.le_trans (Frm.tr E0f.out (Frm.refl _ _)).size (Nat.le_trans F2.out.size (Nat.le_trans Xe.out.size X3.out.size)))⟩


end Go.Proofs.Ytnionfddejaalaa
