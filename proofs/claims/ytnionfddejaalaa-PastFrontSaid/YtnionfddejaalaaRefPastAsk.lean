/-
  Ask of the document's past (law 22).
-/
import Derived.Test.YtnionfddejaalaaRefPast
import Derived.Test.YtnionfddejaalaaRefMay
namespace Go.Proofs.Ytnionfddejaalaa
set_option linter.unusedVariables false
set_option linter.unusedSimpArgs false
open Go.RowKit

set_option maxRecDepth 8000 in
set_option maxHeartbeats 8000000 in
theorem rask_bad (base P : Nat) (G : Option Nat) (st : Ps) (s k i m : Int) (d : ByteArray) (c : Int) (w : World) (H : RAt w base P G st) (hd : d.size ≤ maxLen) (hm : mayReqB c s k i m d.size = false) :
    Calls Try.prog 12 #[.pointer (some ⟨P, 0, none⟩), .agg #[.int .i64 c, .int .i64 s, .int .i64 k, .int .i64 i, .int .i64 m, .string d]] w fun e w' => e = .returned (.int .i64 1) ∧ Ext w w' := by
  refine hide_post fun D hD => ?_
  obtain ⟨w0, hw0⟩ : ∃ w0, w0 = w.alloc (.cells #[.int .i64 c, .int .i64 s, .int .i64 k, .int .i64 i, .int .i64 m, .string d] 29) := ⟨_, rfl⟩
  have hb0 : Ext w w0 := by rw [hw0]; exact Ext.alloc _ _
  have KQ : Hid (Blk w0 w.heap.size 29 #[.int .i64 c, .int .i64 s, .int .i64 k, .int .i64 i, .int .i64 m, .string d]) := by show Blk _ _ _ _; rw [hw0]; exact Blk.new _ _ _
  have CM : Hid (∀ V, Calls Try.prog 37 #[.agg #[.int .i64 c, .int .i64 s, .int .i64 k, .int .i64 i, .int .i64 m, .string d]] V fun e w' => e = .returned (.bool false) ∧ Ext V w') := fun V => by rw [← hm]; exact refMayReq_any c s k i m d V hd
  have X0 : Hid (Ext w w0) := hb0
  have HW := Lib.hid hw0
  clear hb0 hw0 H hm hd
  go_enter Try.func12, Try.ntmps12
  go_wp2_with (go_at_call 37; rw [← HW.out]; (with_reducible refine (CM.out _).mono ?_); rintro e w1 ⟨rfl, hx⟩; have X1 : Hid (Ext w w1) := Ext.trans X0.out hx; clear hx)
  try go_ret
  exact hD.out _ _ ⟨rfl, X1.out⟩

set_option maxRecDepth 8000 in
set_option maxHeartbeats 8000000 in
theorem rask_wait0 (base P : Nat) (G : Option Nat) (st : Ps) (s k i m : Int) (d : ByteArray) (xc xs xk xi xm : Int) (xd : ByteArray) (w : World) (H : RAt w base P G st) (hd : d.size ≤ maxLen) (hm : mayReqB 0 s k i m d.size = true) (hs : st.w 0 = some ⟨xc, xs, xk, xi, xm, xd⟩) (hx1 : 1 ≤ xs) :
    Calls Try.prog 12 #[.pointer (some ⟨P, 0, none⟩), .agg #[.int .i64 0, .int .i64 s, .int .i64 k, .int .i64 i, .int .i64 m, .string d]] w fun e w' => e = .returned (.int .i64 4) ∧ Ext w w' := by
  refine hide_post fun D hD => ?_
  obtain ⟨hbP, v, l0, l1, l2, l3, o0, o1, o2, o3, L, kP, hl, hw, hown, hG, hL, hin⟩ := H
  obtain ⟨w0, hw0⟩ : ∃ w0, w0 = w.alloc (.cells #[.int .i64 0, .int .i64 s, .int .i64 k, .int .i64 i, .int .i64 m, .string d] 29) := ⟨_, rfl⟩
  have hb0 : Ext w w0 := by rw [hw0]; exact Ext.alloc _ _
  have KQ : Hid (Blk w0 w.heap.size 29 #[.int .i64 0, .int .i64 s, .int .i64 k, .int .i64 i, .int .i64 m, .string d]) := by show Blk _ _ _ _; rw [hw0]; exact Blk.new _ _ _
  have CM : Hid (∀ V, Calls Try.prog 37 #[.agg #[.int .i64 0, .int .i64 s, .int .i64 k, .int .i64 i, .int .i64 m, .string d]] V fun e w' => e = .returned (.bool true) ∧ Ext V w') := fun V => by rw [← hm]; exact refMayReq_any 0 s k i m d V hd
  have X0 : Hid (Ext w w0) := hb0
  have HW := Lib.hid hw0
  have ho : o0 = some ⟨xc, xs, xk, xi, xm, xd⟩ := by unfold Ps.w at hs; rw [hw] at hs; exact hs
  subst ho
  have hx2 : 0 < xs := by omega
  have y0 : ∀ V, Ext w0 V → V.cell? ⟨P, 0, none⟩ = some (v) := fun V h => (((kP.stay hb0).stay h)).cell 0
  have y1 : ∀ V, Ext w0 V → V.cell? ⟨P, 1, none⟩ = some (.int .i64 l0) := fun V h => (((kP.stay hb0).stay h)).cell 1
  have y5 : ∀ V, Ext w0 V → V.cell? ⟨P, 5, none⟩ = some (.int .i64 xc) := fun V h => (((kP.stay hb0).stay h)).cell 5
  have y6 : ∀ V, Ext w0 V → V.cell? ⟨P, 6, none⟩ = some (.int .i64 xs) := fun V h => (((kP.stay hb0).stay h)).cell 6
  have y7 : ∀ V, Ext w0 V → V.cell? ⟨P, 7, none⟩ = some (.int .i64 xk) := fun V h => (((kP.stay hb0).stay h)).cell 7
  have y8 : ∀ V, Ext w0 V → V.cell? ⟨P, 8, none⟩ = some (.int .i64 xi) := fun V h => (((kP.stay hb0).stay h)).cell 8
  have y9 : ∀ V, Ext w0 V → V.cell? ⟨P, 9, none⟩ = some (.int .i64 xm) := fun V h => (((kP.stay hb0).stay h)).cell 9
  have y10 : ∀ V, Ext w0 V → V.cell? ⟨P, 10, none⟩ = some (.string xd) := fun V h => (((kP.stay hb0).stay h)).cell 10
  have z0 : ∀ V, Ext w0 V → V.cell? ⟨w.heap.size, 0, none⟩ = some (.int .i64 0) := fun V h => ((KQ.out.stay h)).cell 0
  have z1 : ∀ V, Ext w0 V → V.cell? ⟨w.heap.size, 1, none⟩ = some (.int .i64 s) := fun V h => ((KQ.out.stay h)).cell 1
  have z2 : ∀ V, Ext w0 V → V.cell? ⟨w.heap.size, 2, none⟩ = some (.int .i64 k) := fun V h => ((KQ.out.stay h)).cell 2
  have z3 : ∀ V, Ext w0 V → V.cell? ⟨w.heap.size, 3, none⟩ = some (.int .i64 i) := fun V h => ((KQ.out.stay h)).cell 3
  have z4 : ∀ V, Ext w0 V → V.cell? ⟨w.heap.size, 4, none⟩ = some (.int .i64 m) := fun V h => ((KQ.out.stay h)).cell 4
  have z5 : ∀ V, Ext w0 V → V.cell? ⟨w.heap.size, 5, none⟩ = some (.string d) := fun V h => ((KQ.out.stay h)).cell 5
  clear hb0 hw0 kP hl hw hown hG hL hin hm hd hs hx1
  go_enter Try.func12, Try.ntmps12
  go_wp2_with (go_at_call 37; rw [← HW.out]; (with_reducible refine (CM.out _).mono ?_); rintro e w1 ⟨rfl, hx⟩; have E1 : Hid (Ext w0 w1) := hx; clear hx)
  refine ext_begin (by kernel_rfl) ?_
  have E1d := Lib.hid (Ext.drewR E1.out)
  refine ext_take (i := 0) (v := ?_) rfl (by kernel_rfl) (by kernel_rfl) (by kernel_rfl) (fun _ _ _ h => h) (by rfl) ?_ ?_
  rotate_left
  · intro W hW; have hW0 := Ext.trans E1d.out hW; clear hW; go_simp <;> with_reducible rfl
  try simp only [Act.put, List.setIfInBounds_toArray, List.set_cons_zero, List.set_cons_succ]
  refine ext_take (i := 1) (v := ?_) rfl (by kernel_rfl) (by kernel_rfl) (by kernel_rfl) (fun _ _ _ h => h) (by rfl) ?_ ?_
  rotate_left
  · intro W hW; have hW0 := Ext.trans E1d.out hW; clear hW; go_simp <;> with_reducible rfl
  try simp only [Act.put, List.setIfInBounds_toArray, List.set_cons_zero, List.set_cons_succ]
  refine ext_take (i := 2) (v := ?_) rfl (by kernel_rfl) (by kernel_rfl) (by kernel_rfl) (fun _ _ _ h => h) (by rfl) ?_ ?_
  rotate_left
  · intro W hW; have hW0 := Ext.trans E1d.out hW; clear hW; go_simp <;> with_reducible rfl
  try simp only [Act.put, List.setIfInBounds_toArray, List.set_cons_zero, List.set_cons_succ]
  refine ext_take (i := 3) (v := ?_) rfl (by kernel_rfl) (by kernel_rfl) (by kernel_rfl) (fun _ _ _ h => h) (by rfl) ?_ ?_
  rotate_left
  · intro W hW; have hW0 := Ext.trans E1d.out hW; clear hW; go_simp <;> with_reducible rfl
  try simp only [Act.put, List.setIfInBounds_toArray, List.set_cons_zero, List.set_cons_succ]
  refine ext_take (i := 4) (v := ?_) rfl (by kernel_rfl) (by kernel_rfl) (by kernel_rfl) (fun _ _ _ h => h) (by rfl) ?_ ?_
  rotate_left
  · intro W hW; have hW0 := Ext.trans E1d.out hW; clear hW; go_simp <;> with_reducible rfl
  try simp only [Act.put, List.setIfInBounds_toArray, List.set_cons_zero, List.set_cons_succ]
  refine ext_take (i := 5) (v := ?_) rfl (by kernel_rfl) (by kernel_rfl) (by kernel_rfl) (fun _ _ _ h => h) (by rfl) ?_ ?_
  rotate_left
  · intro W hW; have hW0 := Ext.trans E1d.out hW; clear hW; go_simp <;> with_reducible rfl
  try simp only [Act.put, List.setIfInBounds_toArray, List.set_cons_zero, List.set_cons_succ]
  refine ext_take (i := 6) (v := ?_) rfl (by kernel_rfl) (by kernel_rfl) (by kernel_rfl) (fun _ _ _ h => h) (by rfl) ?_ ?_
  rotate_left
  · intro W hW; have hW0 := Ext.trans E1d.out hW; clear hW; go_simp <;> with_reducible rfl
  try simp only [Act.put, List.setIfInBounds_toArray, List.set_cons_zero, List.set_cons_succ]
  refine ext_take (i := 7) (v := ?_) rfl (by kernel_rfl) (by kernel_rfl) (by kernel_rfl) (fun _ _ _ h => h) (by rfl) ?_ ?_
  rotate_left
  · intro W hW; have hW0 := Ext.trans E1d.out hW; clear hW; go_simp <;> with_reducible rfl
  try simp only [Act.put, List.setIfInBounds_toArray, List.set_cons_zero, List.set_cons_succ]
  refine ext_take (i := 8) (v := ?_) rfl (by kernel_rfl) (by kernel_rfl) (by kernel_rfl) (fun _ _ _ h => h) (by rfl) ?_ ?_
  rotate_left
  · intro W hW; have hW0 := Ext.trans E1d.out hW; clear hW; go_simp <;> with_reducible rfl
  try simp only [Act.put, List.setIfInBounds_toArray, List.set_cons_zero, List.set_cons_succ]
  refine ext_take (i := 9) (v := ?_) rfl (by kernel_rfl) (by kernel_rfl) (by kernel_rfl) (fun _ _ _ h => h) (by rfl) ?_ ?_
  rotate_left
  · intro W hW; have hW0 := Ext.trans E1d.out hW; clear hW; go_simp <;> with_reducible rfl
  try simp only [Act.put, List.setIfInBounds_toArray, List.set_cons_zero, List.set_cons_succ]
  refine wpAnyH_done (by kernel_rfl) ?_ _
  have EX := Lib.hid E1d.out
  clear E1d
  try go_wp2_with fail
  try go_ret
  exact hD.out _ _ ⟨rfl, Ext.trans X0.out EX.out⟩

set_option maxRecDepth 8000 in
set_option maxHeartbeats 8000000 in
theorem rask_old0 (base P : Nat) (G : Option Nat) (st : Ps) (s k i m : Int) (d : ByteArray) (w : World) (H : RAt w base P G st) (hd : d.size ≤ maxLen) (hm : mayReqB 0 s k i m d.size = true) (hs : st.w 0 = none) (ht : s ≤ st.la 0) :
    Calls Try.prog 12 #[.pointer (some ⟨P, 0, none⟩), .agg #[.int .i64 0, .int .i64 s, .int .i64 k, .int .i64 i, .int .i64 m, .string d]] w fun e w' => e = .returned (.int .i64 9) ∧ Ext w w' := by
  refine hide_post fun D hD => ?_
  obtain ⟨hbP, v, l0, l1, l2, l3, o0, o1, o2, o3, L, kP, hl, hw, hown, hG, hL, hin⟩ := H
  obtain ⟨w0, hw0⟩ : ∃ w0, w0 = w.alloc (.cells #[.int .i64 0, .int .i64 s, .int .i64 k, .int .i64 i, .int .i64 m, .string d] 29) := ⟨_, rfl⟩
  have hb0 : Ext w w0 := by rw [hw0]; exact Ext.alloc _ _
  have KQ : Hid (Blk w0 w.heap.size 29 #[.int .i64 0, .int .i64 s, .int .i64 k, .int .i64 i, .int .i64 m, .string d]) := by show Blk _ _ _ _; rw [hw0]; exact Blk.new _ _ _
  have CM : Hid (∀ V, Calls Try.prog 37 #[.agg #[.int .i64 0, .int .i64 s, .int .i64 k, .int .i64 i, .int .i64 m, .string d]] V fun e w' => e = .returned (.bool true) ∧ Ext V w') := fun V => by rw [← hm]; exact refMayReq_any 0 s k i m d V hd
  have X0 : Hid (Ext w w0) := hb0
  have HW := Lib.hid hw0
  have ho : o0 = none := by unfold Ps.w at hs; rw [hw] at hs; exact hs
  subst ho
  have hlc : l0 = st.la 0 := by unfold Ps.la; rw [hl]; rfl
  rw [← hlc] at ht
  have y0 : ∀ V, Ext w0 V → V.cell? ⟨P, 0, none⟩ = some (v) := fun V h => (((kP.stay hb0).stay h)).cell 0
  have y1 : ∀ V, Ext w0 V → V.cell? ⟨P, 1, none⟩ = some (.int .i64 l0) := fun V h => (((kP.stay hb0).stay h)).cell 1
  have y5 : ∀ V, Ext w0 V → V.cell? ⟨P, 5, none⟩ = some (.int .i64 0) := fun V h => (((kP.stay hb0).stay h)).cell 5
  have y6 : ∀ V, Ext w0 V → V.cell? ⟨P, 6, none⟩ = some (.int .i64 0) := fun V h => (((kP.stay hb0).stay h)).cell 6
  have y7 : ∀ V, Ext w0 V → V.cell? ⟨P, 7, none⟩ = some (.int .i64 0) := fun V h => (((kP.stay hb0).stay h)).cell 7
  have y8 : ∀ V, Ext w0 V → V.cell? ⟨P, 8, none⟩ = some (.int .i64 0) := fun V h => (((kP.stay hb0).stay h)).cell 8
  have y9 : ∀ V, Ext w0 V → V.cell? ⟨P, 9, none⟩ = some (.int .i64 0) := fun V h => (((kP.stay hb0).stay h)).cell 9
  have y10 : ∀ V, Ext w0 V → V.cell? ⟨P, 10, none⟩ = some (.string ⟨#[]⟩) := fun V h => (((kP.stay hb0).stay h)).cell 10
  have z0 : ∀ V, Ext w0 V → V.cell? ⟨w.heap.size, 0, none⟩ = some (.int .i64 0) := fun V h => ((KQ.out.stay h)).cell 0
  have z1 : ∀ V, Ext w0 V → V.cell? ⟨w.heap.size, 1, none⟩ = some (.int .i64 s) := fun V h => ((KQ.out.stay h)).cell 1
  have z2 : ∀ V, Ext w0 V → V.cell? ⟨w.heap.size, 2, none⟩ = some (.int .i64 k) := fun V h => ((KQ.out.stay h)).cell 2
  have z3 : ∀ V, Ext w0 V → V.cell? ⟨w.heap.size, 3, none⟩ = some (.int .i64 i) := fun V h => ((KQ.out.stay h)).cell 3
  have z4 : ∀ V, Ext w0 V → V.cell? ⟨w.heap.size, 4, none⟩ = some (.int .i64 m) := fun V h => ((KQ.out.stay h)).cell 4
  have z5 : ∀ V, Ext w0 V → V.cell? ⟨w.heap.size, 5, none⟩ = some (.string d) := fun V h => ((KQ.out.stay h)).cell 5
  clear hb0 hw0 kP hl hw hown hG hL hin hm hd hs hlc
  go_enter Try.func12, Try.ntmps12
  go_wp2_with (go_at_call 37; rw [← HW.out]; (with_reducible refine (CM.out _).mono ?_); rintro e w1 ⟨rfl, hx⟩; have E1 : Hid (Ext w0 w1) := hx; clear hx)
  refine ext_begin (by kernel_rfl) ?_
  have E1d := Lib.hid (Ext.drewR E1.out)
  refine ext_take (i := 0) (v := ?_) rfl (by kernel_rfl) (by kernel_rfl) (by kernel_rfl) (fun _ _ _ h => h) (by rfl) ?_ ?_
  rotate_left
  · intro W hW; have hW0 := Ext.trans E1d.out hW; clear hW; go_simp <;> with_reducible rfl
  try simp only [Act.put, List.setIfInBounds_toArray, List.set_cons_zero, List.set_cons_succ]
  refine ext_take (i := 1) (v := ?_) rfl (by kernel_rfl) (by kernel_rfl) (by kernel_rfl) (fun _ _ _ h => h) (by rfl) ?_ ?_
  rotate_left
  · intro W hW; have hW0 := Ext.trans E1d.out hW; clear hW; go_simp <;> with_reducible rfl
  try simp only [Act.put, List.setIfInBounds_toArray, List.set_cons_zero, List.set_cons_succ]
  refine ext_take (i := 2) (v := ?_) rfl (by kernel_rfl) (by kernel_rfl) (by kernel_rfl) (fun _ _ _ h => h) (by rfl) ?_ ?_
  rotate_left
  · intro W hW; have hW0 := Ext.trans E1d.out hW; clear hW; go_simp <;> with_reducible rfl
  try simp only [Act.put, List.setIfInBounds_toArray, List.set_cons_zero, List.set_cons_succ]
  refine ext_take (i := 3) (v := ?_) rfl (by kernel_rfl) (by kernel_rfl) (by kernel_rfl) (fun _ _ _ h => h) (by rfl) ?_ ?_
  rotate_left
  · intro W hW; have hW0 := Ext.trans E1d.out hW; clear hW; go_simp <;> with_reducible rfl
  try simp only [Act.put, List.setIfInBounds_toArray, List.set_cons_zero, List.set_cons_succ]
  refine ext_take (i := 4) (v := ?_) rfl (by kernel_rfl) (by kernel_rfl) (by kernel_rfl) (fun _ _ _ h => h) (by rfl) ?_ ?_
  rotate_left
  · intro W hW; have hW0 := Ext.trans E1d.out hW; clear hW; go_simp <;> with_reducible rfl
  try simp only [Act.put, List.setIfInBounds_toArray, List.set_cons_zero, List.set_cons_succ]
  refine ext_take (i := 5) (v := ?_) rfl (by kernel_rfl) (by kernel_rfl) (by kernel_rfl) (fun _ _ _ h => h) (by rfl) ?_ ?_
  rotate_left
  · intro W hW; have hW0 := Ext.trans E1d.out hW; clear hW; go_simp <;> with_reducible rfl
  try simp only [Act.put, List.setIfInBounds_toArray, List.set_cons_zero, List.set_cons_succ]
  refine ext_take (i := 6) (v := ?_) rfl (by kernel_rfl) (by kernel_rfl) (by kernel_rfl) (fun _ _ _ h => h) (by rfl) ?_ ?_
  rotate_left
  · intro W hW; have hW0 := Ext.trans E1d.out hW; clear hW; go_simp <;> with_reducible rfl
  try simp only [Act.put, List.setIfInBounds_toArray, List.set_cons_zero, List.set_cons_succ]
  refine ext_take (i := 7) (v := ?_) rfl (by kernel_rfl) (by kernel_rfl) (by kernel_rfl) (fun _ _ _ h => h) (by rfl) ?_ ?_
  rotate_left
  · intro W hW; have hW0 := Ext.trans E1d.out hW; clear hW; go_simp <;> with_reducible rfl
  try simp only [Act.put, List.setIfInBounds_toArray, List.set_cons_zero, List.set_cons_succ]
  refine ext_take (i := 8) (v := ?_) rfl (by kernel_rfl) (by kernel_rfl) (by kernel_rfl) (fun _ _ _ h => h) (by rfl) ?_ ?_
  rotate_left
  · intro W hW; have hW0 := Ext.trans E1d.out hW; clear hW; go_simp <;> with_reducible rfl
  try simp only [Act.put, List.setIfInBounds_toArray, List.set_cons_zero, List.set_cons_succ]
  refine ext_take (i := 9) (v := ?_) rfl (by kernel_rfl) (by kernel_rfl) (by kernel_rfl) (fun _ _ _ h => h) (by rfl) ?_ ?_
  rotate_left
  · intro W hW; have hW0 := Ext.trans E1d.out hW; clear hW; go_simp <;> with_reducible rfl
  try simp only [Act.put, List.setIfInBounds_toArray, List.set_cons_zero, List.set_cons_succ]
  refine wpAnyH_done (by kernel_rfl) ?_ _
  try go_wp2_with fail
  refine ext_begin (by kernel_rfl) ?_
  have E1dd := Lib.hid (Ext.drewR E1d.out)
  refine ext_take (i := 0) (v := ?_) rfl (by kernel_rfl) (by kernel_rfl) (by kernel_rfl) (fun _ _ _ h => h) (by rfl) ?_ ?_
  rotate_left
  · intro W hW; have hW0 := Ext.trans E1dd.out hW; clear hW; go_simp <;> with_reducible rfl
  try simp only [Act.put, List.setIfInBounds_toArray, List.set_cons_zero, List.set_cons_succ]
  refine ext_take (i := 1) (v := ?_) rfl (by kernel_rfl) (by kernel_rfl) (by kernel_rfl) (fun _ _ _ h => h) (by rfl) ?_ ?_
  rotate_left
  · intro W hW; have hW0 := Ext.trans E1dd.out hW; clear hW; go_simp <;> with_reducible rfl
  try simp only [Act.put, List.setIfInBounds_toArray, List.set_cons_zero, List.set_cons_succ]
  refine ext_take (i := 2) (v := ?_) rfl (by kernel_rfl) (by kernel_rfl) (by kernel_rfl) (fun _ _ _ h => h) (by rfl) ?_ ?_
  rotate_left
  · intro W hW; have hW0 := Ext.trans E1dd.out hW; clear hW; go_simp <;> with_reducible rfl
  try simp only [Act.put, List.setIfInBounds_toArray, List.set_cons_zero, List.set_cons_succ]
  refine ext_take (i := 3) (v := ?_) rfl (by kernel_rfl) (by kernel_rfl) (by kernel_rfl) (fun _ _ _ h => h) (by rfl) ?_ ?_
  rotate_left
  · intro W hW; have hW0 := Ext.trans E1dd.out hW; clear hW; go_simp <;> with_reducible rfl
  try simp only [Act.put, List.setIfInBounds_toArray, List.set_cons_zero, List.set_cons_succ]
  refine ext_take (i := 4) (v := ?_) rfl (by kernel_rfl) (by kernel_rfl) (by kernel_rfl) (fun _ _ _ h => h) (by rfl) ?_ ?_
  rotate_left
  · intro W hW; have hW0 := Ext.trans E1dd.out hW; clear hW; go_simp <;> with_reducible rfl
  try simp only [Act.put, List.setIfInBounds_toArray, List.set_cons_zero, List.set_cons_succ]
  refine ext_take (i := 5) (v := ?_) rfl (by kernel_rfl) (by kernel_rfl) (by kernel_rfl) (fun _ _ _ h => h) (by rfl) ?_ ?_
  rotate_left
  · intro W hW; have hW0 := Ext.trans E1dd.out hW; clear hW; go_simp <;> with_reducible rfl
  try simp only [Act.put, List.setIfInBounds_toArray, List.set_cons_zero, List.set_cons_succ]
  refine ext_take (i := 6) (v := ?_) rfl (by kernel_rfl) (by kernel_rfl) (by kernel_rfl) (fun _ _ _ h => h) (by rfl) ?_ ?_
  rotate_left
  · intro W hW; have hW0 := Ext.trans E1dd.out hW; clear hW; go_simp <;> with_reducible rfl
  try simp only [Act.put, List.setIfInBounds_toArray, List.set_cons_zero, List.set_cons_succ]
  refine ext_take (i := 7) (v := ?_) rfl (by kernel_rfl) (by kernel_rfl) (by kernel_rfl) (fun _ _ _ h => h) (by rfl) ?_ ?_
  rotate_left
  · intro W hW; have hW0 := Ext.trans E1dd.out hW; clear hW; go_simp <;> with_reducible rfl
  try simp only [Act.put, List.setIfInBounds_toArray, List.set_cons_zero, List.set_cons_succ]
  refine ext_take (i := 8) (v := ?_) rfl (by kernel_rfl) (by kernel_rfl) (by kernel_rfl) (fun _ _ _ h => h) (by rfl) ?_ ?_
  rotate_left
  · intro W hW; have hW0 := Ext.trans E1dd.out hW; clear hW; go_simp <;> with_reducible rfl
  try simp only [Act.put, List.setIfInBounds_toArray, List.set_cons_zero, List.set_cons_succ]
  refine ext_take (i := 9) (v := ?_) rfl (by kernel_rfl) (by kernel_rfl) (by kernel_rfl) (fun _ _ _ h => h) (by rfl) ?_ ?_
  rotate_left
  · intro W hW; have hW0 := Ext.trans E1dd.out hW; clear hW; go_simp <;> with_reducible rfl
  try simp only [Act.put, List.setIfInBounds_toArray, List.set_cons_zero, List.set_cons_succ]
  refine ext_take (i := 10) (v := ?_) rfl (by kernel_rfl) (by kernel_rfl) (by kernel_rfl) (fun _ _ _ h => h) (by rfl) ?_ ?_
  rotate_left
  · intro W hW; have hW0 := Ext.trans E1dd.out hW; clear hW; go_simp <;> with_reducible rfl
  try simp only [Act.put, List.setIfInBounds_toArray, List.set_cons_zero, List.set_cons_succ]
  refine wpAnyH_done (by kernel_rfl) ?_ _
  have EX := Lib.hid E1dd.out
  clear E1d E1dd
  try go_wp2_with fail
  try go_ret
  exact hD.out _ _ ⟨rfl, Ext.trans X0.out EX.out⟩

set_option maxRecDepth 8000 in
set_option maxHeartbeats 8000000 in
theorem rask_ok0 (base P : Nat) (G : Option Nat) (st : Ps) (s k i m : Int) (d : ByteArray) (w : World) (H : RAt w base P G st) (hd : d.size ≤ maxLen) (hm : mayReqB 0 s k i m d.size = true) (hs : st.w 0 = none) (ht : st.la 0 < s) (hn : st.acts.length ≤ 1000000) :
    Calls Try.prog 12 #[.pointer (some ⟨P, 0, none⟩), .agg #[.int .i64 0, .int .i64 s, .int .i64 k, .int .i64 i, .int .i64 m, .string d]] w fun e w' => e = .returned (.int .i64 0) ∧ ROut w w' base P G (askS st ⟨0, s, k, i, m, d⟩) := by
  refine hide_post fun D hD => ?_
  have hlt := H.lt
  obtain ⟨hbP, v, l0, l1, l2, l3, o0, o1, o2, o3, L, kP, hl, hw, hown, hG, hL, hin⟩ := H
  obtain ⟨w0, hw0⟩ : ∃ w0, w0 = w.alloc (.cells #[.int .i64 0, .int .i64 s, .int .i64 k, .int .i64 i, .int .i64 m, .string d] 29) := ⟨_, rfl⟩
  have hb0 : Ext w w0 := by rw [hw0]; exact Ext.alloc _ _
  have KQ : Hid (Blk w0 w.heap.size 29 #[.int .i64 0, .int .i64 s, .int .i64 k, .int .i64 i, .int .i64 m, .string d]) := by show Blk _ _ _ _; rw [hw0]; exact Blk.new _ _ _
  have CM : Hid (∀ V, Calls Try.prog 37 #[.agg #[.int .i64 0, .int .i64 s, .int .i64 k, .int .i64 i, .int .i64 m, .string d]] V fun e w' => e = .returned (.bool true) ∧ Ext V w') := fun V => by rw [← hm]; exact refMayReq_any 0 s k i m d V hd
  have X0 : Hid (Ext w w0) := hb0
  have HW := Lib.hid hw0
  have ho : o0 = none := by unfold Ps.w at hs; rw [hw] at hs; exact hs
  subst ho
  have hlc : l0 = st.la 0 := by unfold Ps.la; rw [hl]; rfl
  rw [← hlc] at ht
  have y0 : ∀ V, Ext w0 V → V.cell? ⟨P, 0, none⟩ = some (v) := fun V h => (((kP.stay hb0).stay h)).cell 0
  have y1 : ∀ V, Ext w0 V → V.cell? ⟨P, 1, none⟩ = some (.int .i64 l0) := fun V h => (((kP.stay hb0).stay h)).cell 1
  have y5 : ∀ V, Ext w0 V → V.cell? ⟨P, 5, none⟩ = some (.int .i64 0) := fun V h => (((kP.stay hb0).stay h)).cell 5
  have y6 : ∀ V, Ext w0 V → V.cell? ⟨P, 6, none⟩ = some (.int .i64 0) := fun V h => (((kP.stay hb0).stay h)).cell 6
  have y7 : ∀ V, Ext w0 V → V.cell? ⟨P, 7, none⟩ = some (.int .i64 0) := fun V h => (((kP.stay hb0).stay h)).cell 7
  have y8 : ∀ V, Ext w0 V → V.cell? ⟨P, 8, none⟩ = some (.int .i64 0) := fun V h => (((kP.stay hb0).stay h)).cell 8
  have y9 : ∀ V, Ext w0 V → V.cell? ⟨P, 9, none⟩ = some (.int .i64 0) := fun V h => (((kP.stay hb0).stay h)).cell 9
  have y10 : ∀ V, Ext w0 V → V.cell? ⟨P, 10, none⟩ = some (.string ⟨#[]⟩) := fun V h => (((kP.stay hb0).stay h)).cell 10
  have z0 : ∀ V, Ext w0 V → V.cell? ⟨w.heap.size, 0, none⟩ = some (.int .i64 0) := fun V h => ((KQ.out.stay h)).cell 0
  have z1 : ∀ V, Ext w0 V → V.cell? ⟨w.heap.size, 1, none⟩ = some (.int .i64 s) := fun V h => ((KQ.out.stay h)).cell 1
  have z2 : ∀ V, Ext w0 V → V.cell? ⟨w.heap.size, 2, none⟩ = some (.int .i64 k) := fun V h => ((KQ.out.stay h)).cell 2
  have z3 : ∀ V, Ext w0 V → V.cell? ⟨w.heap.size, 3, none⟩ = some (.int .i64 i) := fun V h => ((KQ.out.stay h)).cell 3
  have z4 : ∀ V, Ext w0 V → V.cell? ⟨w.heap.size, 4, none⟩ = some (.int .i64 m) := fun V h => ((KQ.out.stay h)).cell 4
  have z5 : ∀ V, Ext w0 V → V.cell? ⟨w.heap.size, 5, none⟩ = some (.string d) := fun V h => ((KQ.out.stay h)).cell 5
  have ht2 : ¬ s ≤ l0 := by omega
  have hLn : L.length ≤ 1000000000 := by have h5 := congrArg List.length hL; rw [List.length_map] at h5; omega
  have HLN : Hid (L.length ≤ 1000000000) := hLn
  have HKP := Lib.hid (kP.stay hb0)
  have HKPw := Lib.hid kP
  have HOWNw := Lib.hid hown
  have HOWN := Lib.hid hown
  have HG : Hid (v.ownBlock = G) := hG
  have HL := Lib.hid hL
  have HIN := Lib.hid hin
  have HBP : Hid (base ≤ P) := hbP
  have HBS : Hid (base ≤ w.heap.size) := Nat.le_trans hbP (Nat.le_of_lt hlt)
  have HLT : Hid (P < w.heap.size) := hlt
  have HLS := Lib.hid hl
  have HWS := Lib.hid hw
  have HNP : Hid (¬ some P = G) := fun e => by
    obtain ⟨cs, hc⟩ := own_blk hown (hG.trans e.symm)
    exact Blk.apart kP hc (by decide) rfl
  clear hb0 hw0 kP hl hw hown hG hL hin hm hd hs hlc hlt hbP hLn
  obtain ⟨g, hg⟩ : ∃ g, g = w.heap.size := ⟨_, rfl⟩
  have HGG := Lib.hid hg
  rw [← hg] at KQ z0 z1 z2 z3 z4 z5
  go_enter Try.func12, Try.ntmps12
  go_wp2_with (go_at_call 37; rw [← HW.out]; (with_reducible refine (CM.out _).mono ?_); rintro e w1 ⟨rfl, hx⟩; have E1 : Hid (Ext w0 w1) := hx; clear hx)
  rw [← HGG.out]
  clear hg
  refine ext_begin (by kernel_rfl) ?_
  have E1d := Lib.hid (Ext.drewR E1.out)
  refine ext_take (i := 0) (v := ?_) rfl (by kernel_rfl) (by kernel_rfl) (by kernel_rfl) (fun _ _ _ h => h) (by rfl) ?_ ?_
  rotate_left
  · intro W hW; have hW0 := Ext.trans E1d.out hW; clear hW; go_simp <;> with_reducible rfl
  try simp only [Act.put, List.setIfInBounds_toArray, List.set_cons_zero, List.set_cons_succ]
  refine ext_take (i := 1) (v := ?_) rfl (by kernel_rfl) (by kernel_rfl) (by kernel_rfl) (fun _ _ _ h => h) (by rfl) ?_ ?_
  rotate_left
  · intro W hW; have hW0 := Ext.trans E1d.out hW; clear hW; go_simp <;> with_reducible rfl
  try simp only [Act.put, List.setIfInBounds_toArray, List.set_cons_zero, List.set_cons_succ]
  refine ext_take (i := 2) (v := ?_) rfl (by kernel_rfl) (by kernel_rfl) (by kernel_rfl) (fun _ _ _ h => h) (by rfl) ?_ ?_
  rotate_left
  · intro W hW; have hW0 := Ext.trans E1d.out hW; clear hW; go_simp <;> with_reducible rfl
  try simp only [Act.put, List.setIfInBounds_toArray, List.set_cons_zero, List.set_cons_succ]
  refine ext_take (i := 3) (v := ?_) rfl (by kernel_rfl) (by kernel_rfl) (by kernel_rfl) (fun _ _ _ h => h) (by rfl) ?_ ?_
  rotate_left
  · intro W hW; have hW0 := Ext.trans E1d.out hW; clear hW; go_simp <;> with_reducible rfl
  try simp only [Act.put, List.setIfInBounds_toArray, List.set_cons_zero, List.set_cons_succ]
  refine ext_take (i := 4) (v := ?_) rfl (by kernel_rfl) (by kernel_rfl) (by kernel_rfl) (fun _ _ _ h => h) (by rfl) ?_ ?_
  rotate_left
  · intro W hW; have hW0 := Ext.trans E1d.out hW; clear hW; go_simp <;> with_reducible rfl
  try simp only [Act.put, List.setIfInBounds_toArray, List.set_cons_zero, List.set_cons_succ]
  refine ext_take (i := 5) (v := ?_) rfl (by kernel_rfl) (by kernel_rfl) (by kernel_rfl) (fun _ _ _ h => h) (by rfl) ?_ ?_
  rotate_left
  · intro W hW; have hW0 := Ext.trans E1d.out hW; clear hW; go_simp <;> with_reducible rfl
  try simp only [Act.put, List.setIfInBounds_toArray, List.set_cons_zero, List.set_cons_succ]
  refine ext_take (i := 6) (v := ?_) rfl (by kernel_rfl) (by kernel_rfl) (by kernel_rfl) (fun _ _ _ h => h) (by rfl) ?_ ?_
  rotate_left
  · intro W hW; have hW0 := Ext.trans E1d.out hW; clear hW; go_simp <;> with_reducible rfl
  try simp only [Act.put, List.setIfInBounds_toArray, List.set_cons_zero, List.set_cons_succ]
  refine ext_take (i := 7) (v := ?_) rfl (by kernel_rfl) (by kernel_rfl) (by kernel_rfl) (fun _ _ _ h => h) (by rfl) ?_ ?_
  rotate_left
  · intro W hW; have hW0 := Ext.trans E1d.out hW; clear hW; go_simp <;> with_reducible rfl
  try simp only [Act.put, List.setIfInBounds_toArray, List.set_cons_zero, List.set_cons_succ]
  refine ext_take (i := 8) (v := ?_) rfl (by kernel_rfl) (by kernel_rfl) (by kernel_rfl) (fun _ _ _ h => h) (by rfl) ?_ ?_
  rotate_left
  · intro W hW; have hW0 := Ext.trans E1d.out hW; clear hW; go_simp <;> with_reducible rfl
  try simp only [Act.put, List.setIfInBounds_toArray, List.set_cons_zero, List.set_cons_succ]
  refine ext_take (i := 9) (v := ?_) rfl (by kernel_rfl) (by kernel_rfl) (by kernel_rfl) (fun _ _ _ h => h) (by rfl) ?_ ?_
  rotate_left
  · intro W hW; have hW0 := Ext.trans E1d.out hW; clear hW; go_simp <;> with_reducible rfl
  try simp only [Act.put, List.setIfInBounds_toArray, List.set_cons_zero, List.set_cons_succ]
  refine wpAnyH_done (by kernel_rfl) ?_ _
  try go_wp2_with fail
  refine ext_begin (by kernel_rfl) ?_
  have E1dd := Lib.hid (Ext.drewR E1d.out)
  refine ext_take (i := 0) (v := ?_) rfl (by kernel_rfl) (by kernel_rfl) (by kernel_rfl) (fun _ _ _ h => h) (by rfl) ?_ ?_
  rotate_left
  · intro W hW; have hW0 := Ext.trans E1dd.out hW; clear hW; go_simp <;> with_reducible rfl
  try simp only [Act.put, List.setIfInBounds_toArray, List.set_cons_zero, List.set_cons_succ]
  refine ext_take (i := 1) (v := ?_) rfl (by kernel_rfl) (by kernel_rfl) (by kernel_rfl) (fun _ _ _ h => h) (by rfl) ?_ ?_
  rotate_left
  · intro W hW; have hW0 := Ext.trans E1dd.out hW; clear hW; go_simp <;> with_reducible rfl
  try simp only [Act.put, List.setIfInBounds_toArray, List.set_cons_zero, List.set_cons_succ]
  refine ext_take (i := 2) (v := ?_) rfl (by kernel_rfl) (by kernel_rfl) (by kernel_rfl) (fun _ _ _ h => h) (by rfl) ?_ ?_
  rotate_left
  · intro W hW; have hW0 := Ext.trans E1dd.out hW; clear hW; go_simp <;> with_reducible rfl
  try simp only [Act.put, List.setIfInBounds_toArray, List.set_cons_zero, List.set_cons_succ]
  refine ext_take (i := 3) (v := ?_) rfl (by kernel_rfl) (by kernel_rfl) (by kernel_rfl) (fun _ _ _ h => h) (by rfl) ?_ ?_
  rotate_left
  · intro W hW; have hW0 := Ext.trans E1dd.out hW; clear hW; go_simp <;> with_reducible rfl
  try simp only [Act.put, List.setIfInBounds_toArray, List.set_cons_zero, List.set_cons_succ]
  refine ext_take (i := 4) (v := ?_) rfl (by kernel_rfl) (by kernel_rfl) (by kernel_rfl) (fun _ _ _ h => h) (by rfl) ?_ ?_
  rotate_left
  · intro W hW; have hW0 := Ext.trans E1dd.out hW; clear hW; go_simp <;> with_reducible rfl
  try simp only [Act.put, List.setIfInBounds_toArray, List.set_cons_zero, List.set_cons_succ]
  refine ext_take (i := 5) (v := ?_) rfl (by kernel_rfl) (by kernel_rfl) (by kernel_rfl) (fun _ _ _ h => h) (by rfl) ?_ ?_
  rotate_left
  · intro W hW; have hW0 := Ext.trans E1dd.out hW; clear hW; go_simp <;> with_reducible rfl
  try simp only [Act.put, List.setIfInBounds_toArray, List.set_cons_zero, List.set_cons_succ]
  refine ext_take (i := 6) (v := ?_) rfl (by kernel_rfl) (by kernel_rfl) (by kernel_rfl) (fun _ _ _ h => h) (by rfl) ?_ ?_
  rotate_left
  · intro W hW; have hW0 := Ext.trans E1dd.out hW; clear hW; go_simp <;> with_reducible rfl
  try simp only [Act.put, List.setIfInBounds_toArray, List.set_cons_zero, List.set_cons_succ]
  refine ext_take (i := 7) (v := ?_) rfl (by kernel_rfl) (by kernel_rfl) (by kernel_rfl) (fun _ _ _ h => h) (by rfl) ?_ ?_
  rotate_left
  · intro W hW; have hW0 := Ext.trans E1dd.out hW; clear hW; go_simp <;> with_reducible rfl
  try simp only [Act.put, List.setIfInBounds_toArray, List.set_cons_zero, List.set_cons_succ]
  refine ext_take (i := 8) (v := ?_) rfl (by kernel_rfl) (by kernel_rfl) (by kernel_rfl) (fun _ _ _ h => h) (by rfl) ?_ ?_
  rotate_left
  · intro W hW; have hW0 := Ext.trans E1dd.out hW; clear hW; go_simp <;> with_reducible rfl
  try simp only [Act.put, List.setIfInBounds_toArray, List.set_cons_zero, List.set_cons_succ]
  refine ext_take (i := 9) (v := ?_) rfl (by kernel_rfl) (by kernel_rfl) (by kernel_rfl) (fun _ _ _ h => h) (by rfl) ?_ ?_
  rotate_left
  · intro W hW; have hW0 := Ext.trans E1dd.out hW; clear hW; go_simp <;> with_reducible rfl
  try simp only [Act.put, List.setIfInBounds_toArray, List.set_cons_zero, List.set_cons_succ]
  refine ext_take (i := 10) (v := ?_) rfl (by kernel_rfl) (by kernel_rfl) (by kernel_rfl) (fun _ _ _ h => h) (by rfl) ?_ ?_
  rotate_left
  · intro W hW; have hW0 := Ext.trans E1dd.out hW; clear hW; go_simp <;> with_reducible rfl
  try simp only [Act.put, List.setIfInBounds_toArray, List.set_cons_zero, List.set_cons_succ]
  refine wpAnyH_done (by kernel_rfl) ?_ _
  try go_wp2_with fail
  obtain ⟨Wa, hWa⟩ : ∃ Wa, Wa = w1.drew.drew := ⟨_, rfl⟩
  have Ew2 : Hid (Ext w0 Wa) := by (show Ext _ _); rw [hWa]; exact E1dd.out
  rw [← hWa]
  clear hWa
  have HKQa := Lib.hid (KQ.out.stay Ew2.out)
  have KPa := Lib.hid (HKP.out.stay Ew2.out)
  have hgne : ¬ g = P := by have h1 := HGG.out; have h2 := HLT.out; omega
  have KP : Hid (Blk Wa.drew P 32 #[v, .int .i64 l0, .int .i64 l1, .int .i64 l2, .int .i64 l3, .int .i64 0, .int .i64 0, .int .i64 0, .int .i64 0, .int .i64 0, .string ⟨#[]⟩, .int .i64 (wq o1).c, .int .i64 (wq o1).s, .int .i64 (wq o1).k, .int .i64 (wq o1).i, .int .i64 (wq o1).m, .string (wq o1).d, .int .i64 (wq o2).c, .int .i64 (wq o2).s, .int .i64 (wq o2).k, .int .i64 (wq o2).i, .int .i64 (wq o2).m, .string (wq o2).d, .int .i64 (wq o3).c, .int .i64 (wq o3).s, .int .i64 (wq o3).k, .int .i64 (wq o3).i, .int .i64 (wq o3).m, .string (wq o3).d]) := KPa.out.drew
  have E0f : Hid (Frm (fun k => k = P) Wa Wa.drew) := (Frm.refl _ _).drew
  have EaX : Hid (Ext w Wa) := Ext.trans X0.out Ew2.out
  clear y0 y1 y5 y6 y7 y8 y9 y10 z0 z1 z2 z3 z4 z5 E1d E1dd
  have z0 : ∀ V, Frm (fun k => k = P) Wa V → V.cell? ⟨g, 0, none⟩ = some (.int .i64 0) := fun V h => ((HKQa.out.frm h hgne)).cell 0
  have z1 : ∀ V, Frm (fun k => k = P) Wa V → V.cell? ⟨g, 1, none⟩ = some (.int .i64 s) := fun V h => ((HKQa.out.frm h hgne)).cell 1
  have z2 : ∀ V, Frm (fun k => k = P) Wa V → V.cell? ⟨g, 2, none⟩ = some (.int .i64 k) := fun V h => ((HKQa.out.frm h hgne)).cell 2
  have z3 : ∀ V, Frm (fun k => k = P) Wa V → V.cell? ⟨g, 3, none⟩ = some (.int .i64 i) := fun V h => ((HKQa.out.frm h hgne)).cell 3
  have z4 : ∀ V, Frm (fun k => k = P) Wa V → V.cell? ⟨g, 4, none⟩ = some (.int .i64 m) := fun V h => ((HKQa.out.frm h hgne)).cell 4
  have z5 : ∀ V, Frm (fun k => k = P) Wa V → V.cell? ⟨g, 5, none⟩ = some (.string d) := fun V h => ((HKQa.out.frm h hgne)).cell 5
  refine rz_begin (fun k => k = P) [] (by kernel_rfl) ?_
  refine rz_take [9, 10, 11, 12, 15, 16] (i := 0) (v := ?_) rfl (by kernel_rfl) (by kernel_rfl) (by kernel_rfl) (by kernel_rfl) (by kernel_rfl) (by kernel_rfl) (fun _ _ _ h => h) (by rfl) ?_ ?_
  rotate_left
  · intro W hW; have hW0 := Frm.tr E0f.out hW; clear hW; go_simp <;> with_reducible rfl
  try simp only [Act.put, List.setIfInBounds_toArray, List.set_cons_zero, List.set_cons_succ]
  refine rz_take [2, 11, 12, 15, 16] (i := 1) (v := ?_) rfl (by kernel_rfl) (by kernel_rfl) (by kernel_rfl) (by kernel_rfl) (by kernel_rfl) (by kernel_rfl) (fun _ _ _ h => h) (by rfl) ?_ ?_
  rotate_left
  · intro W hW; have hW0 := Frm.tr E0f.out hW; clear hW; go_simp <;> with_reducible rfl
  try simp only [Act.put, List.setIfInBounds_toArray, List.set_cons_zero, List.set_cons_succ]
  refine rz_take [11, 12, 15, 16] (i := 2) (v := ?_) rfl (by kernel_rfl) (by kernel_rfl) (by kernel_rfl) (by kernel_rfl) (by kernel_rfl) (by kernel_rfl) (fun _ _ _ h => h) (by rfl) ?_ ?_
  rotate_left
  · intro W hW; have hW0 := Frm.tr E0f.out hW; clear hW; go_simp <;> with_reducible rfl
  try simp only [Act.put, List.setIfInBounds_toArray, List.set_cons_zero, List.set_cons_succ]
  refine rz_take [13, 14, 15, 16] (i := 3) (v := ?_) rfl (by kernel_rfl) (by kernel_rfl) (by kernel_rfl) (by kernel_rfl) (by kernel_rfl) (by kernel_rfl) (fun _ _ _ h => h) (by rfl) ?_ ?_
  rotate_left
  · intro W hW; have hW0 := Frm.tr E0f.out hW; clear hW; go_simp <;> with_reducible rfl
  try simp only [Act.put, List.setIfInBounds_toArray, List.set_cons_zero, List.set_cons_succ]
  refine rz_take [5, 15, 16] (i := 4) (v := ?_) rfl (by kernel_rfl) (by kernel_rfl) (by kernel_rfl) (by kernel_rfl) (by kernel_rfl) (by kernel_rfl) (fun _ _ _ h => h) (by rfl) ?_ ?_
  rotate_left
  · intro W hW; have hW0 := Frm.tr E0f.out hW; clear hW; go_simp <;> with_reducible rfl
  try simp only [Act.put, List.setIfInBounds_toArray, List.set_cons_zero, List.set_cons_succ]
  refine rz_take [15, 16] (i := 5) (v := ?_) rfl (by kernel_rfl) (by kernel_rfl) (by kernel_rfl) (by kernel_rfl) (by kernel_rfl) (by kernel_rfl) (fun _ _ _ h => h) (by rfl) ?_ ?_
  rotate_left
  · intro W hW; have hW0 := Frm.tr E0f.out hW; clear hW; go_simp <;> with_reducible rfl
  try simp only [Act.put, List.setIfInBounds_toArray, List.set_cons_zero, List.set_cons_succ]
  refine rz_take [7, 11, 12, 15, 16] (i := 6) (v := ?_) rfl (by kernel_rfl) (by kernel_rfl) (by kernel_rfl) (by kernel_rfl) (by kernel_rfl) (by kernel_rfl) (fun _ _ _ h => h) (by rfl) ?_ ?_
  rotate_left
  · intro W hW; have hW0 := Frm.tr E0f.out hW; clear hW; go_simp <;> with_reducible rfl
  try simp only [Act.put, List.setIfInBounds_toArray, List.set_cons_zero, List.set_cons_succ]
  refine rz_take [11, 12, 15, 16] (i := 7) (v := ?_) rfl (by kernel_rfl) (by kernel_rfl) (by kernel_rfl) (by kernel_rfl) (by kernel_rfl) (by kernel_rfl) (fun _ _ _ h => h) (by rfl) ?_ ?_
  rotate_left
  · intro W hW; have hW0 := Frm.tr E0f.out hW; clear hW; go_simp <;> with_reducible rfl
  try simp only [Act.put, List.setIfInBounds_toArray, List.set_cons_zero, List.set_cons_succ]
  refine rz_take [15, 16] (i := 8) (v := ?_) rfl (by kernel_rfl) (by kernel_rfl) (by kernel_rfl) (by kernel_rfl) (by kernel_rfl) (by kernel_rfl) (fun _ _ _ h => h) (by rfl) ?_ ?_
  rotate_left
  · intro W hW; have hW0 := Frm.tr E0f.out hW; clear hW; go_simp <;> with_reducible rfl
  try simp only [Act.put, List.setIfInBounds_toArray, List.set_cons_zero, List.set_cons_succ]
  refine rz_take [10, 11, 12, 15, 16] (i := 9) (v := ?_) rfl (by kernel_rfl) (by kernel_rfl) (by kernel_rfl) (by kernel_rfl) (by kernel_rfl) (by kernel_rfl) (fun _ _ _ h => h) (by rfl) ?_ ?_
  rotate_left
  · intro W hW; have hW0 := Frm.tr E0f.out hW; clear hW; go_simp <;> with_reducible rfl
  try simp only [Act.put, List.setIfInBounds_toArray, List.set_cons_zero, List.set_cons_succ]
  refine rz_take [11, 12, 15, 16] (i := 10) (v := ?_) rfl (by kernel_rfl) (by kernel_rfl) (by kernel_rfl) (by kernel_rfl) (by kernel_rfl) (by kernel_rfl) (fun _ _ _ h => h) (by rfl) ?_ ?_
  rotate_left
  · intro W hW; have hW0 := Frm.tr E0f.out hW; clear hW; go_simp <;> with_reducible rfl
  try simp only [Act.put, List.setIfInBounds_toArray, List.set_cons_zero, List.set_cons_succ]
  refine rz_take [12, 15, 16] (i := 11) (v := ?_) rfl (by kernel_rfl) (by kernel_rfl) (by kernel_rfl) (by kernel_rfl) (by kernel_rfl) (by kernel_rfl) (fun _ _ _ h => h) (by rfl) ?_ ?_
  rotate_left
  · intro W hW; have hW0 := Frm.tr E0f.out hW; clear hW; go_simp <;> with_reducible rfl
  try simp only [Act.put, List.setIfInBounds_toArray, List.set_cons_zero, List.set_cons_succ]
  refine rz_take [14, 15, 16] (i := 13) (v := ?_) rfl (by kernel_rfl) (by kernel_rfl) (by kernel_rfl) (by kernel_rfl) (by kernel_rfl) (by kernel_rfl) (fun _ _ _ h => h) (by rfl) ?_ ?_
  rotate_left
  · intro W hW; have hW0 := Frm.tr E0f.out hW; clear hW; go_simp <;> with_reducible rfl
  try simp only [Act.put, List.setIfInBounds_toArray, List.set_cons_zero, List.set_cons_succ]
  refine rz_take [15, 16] (i := 14) (v := ?_) rfl (by kernel_rfl) (by kernel_rfl) (by kernel_rfl) (by kernel_rfl) (by kernel_rfl) (by kernel_rfl) (fun _ _ _ h => h) (by rfl) ?_ ?_
  rotate_left
  · intro W hW; have hW0 := Frm.tr E0f.out hW; clear hW; go_simp <;> with_reducible rfl
  try simp only [Act.put, List.setIfInBounds_toArray, List.set_cons_zero, List.set_cons_succ]
  refine rz_call (i := 12) rfl (by kernel_rfl) (by rfl) (fun K hK => ?_)
  have q1 := KP.out.frozen 1
  have r1 := KP.out.cell 1
  simp at r1
  go_simp
  refine hK _ _ (Frm.of_set _ _ _ rfl) ?_; clear hK K q1 r1
  obtain ⟨W1, hW1⟩ : ∃ W1, W1 = (Wa.setCell ⟨P, 1, none⟩ (.int .i64 s)).drew := ⟨_, rfl⟩
  have KP1 : Hid (Blk W1 P 32 #[v, .int .i64 s, .int .i64 l1, .int .i64 l2, .int .i64 l3, .int .i64 0, .int .i64 0, .int .i64 0, .int .i64 0, .int .i64 0, .string ⟨#[]⟩, .int .i64 (wq o1).c, .int .i64 (wq o1).s, .int .i64 (wq o1).k, .int .i64 (wq o1).i, .int .i64 (wq o1).m, .string (wq o1).d, .int .i64 (wq o2).c, .int .i64 (wq o2).s, .int .i64 (wq o2).k, .int .i64 (wq o2).i, .int .i64 (wq o2).m, .string (wq o2).d, .int .i64 (wq o3).c, .int .i64 (wq o3).s, .int .i64 (wq o3).k, .int .i64 (wq o3).i, .int .i64 (wq o3).m, .string (wq o3).d]) := by (show Blk _ _ _ _); rw [hW1]; exact KP.out.set 1 _
  have F1 : Hid (Frm (fun k => k = P) Wa.drew W1) := by (show Frm _ _ _); rw [hW1]; exact Frm.of_set (s := fun k => k = P) Wa.drew ⟨P, 1, none⟩ _ rfl
  have E8 : Hid (Frm (fun k => k = P) Wa W1) := Frm.tr E0f.out F1.out
  try rw [← hW1]
  clear hW1
  try simp only [Act.put, List.setIfInBounds_toArray, List.set_cons_zero, List.set_cons_succ]
  refine rz_take [16] (i := 15) (v := ?_) rfl (by kernel_rfl) (by kernel_rfl) (by kernel_rfl) (by kernel_rfl) (by kernel_rfl) (by kernel_rfl) (fun _ _ _ h => h) (by rfl) ?_ ?_
  rotate_left
  · intro W hW; have hW0 := Frm.tr E8.out hW; clear hW; go_simp <;> with_reducible rfl
  try simp only [Act.put, List.setIfInBounds_toArray, List.set_cons_zero, List.set_cons_succ]
  refine rz_call (i := 16) rfl (by kernel_rfl) (by rfl) (fun K hK => ?_)
  have q5 := KP1.out.frozen 5
  have r5 := KP1.out.cell 5
  have q6 := KP1.out.frozen 6
  have r6 := KP1.out.cell 6
  have q7 := KP1.out.frozen 7
  have r7 := KP1.out.cell 7
  have q8 := KP1.out.frozen 8
  have r8 := KP1.out.cell 8
  have q9 := KP1.out.frozen 9
  have r9 := KP1.out.cell 9
  have q10 := KP1.out.frozen 10
  have r10 := KP1.out.cell 10
  simp at r5 r6 r7 r8 r9 r10
  go_simp
  refine hK _ _ (Frm.tr (Frm.tr (Frm.tr (Frm.tr (Frm.tr (Frm.tr (Frm.refl (fun k => k = P) W1) (Frm.of_set _ _ _ rfl)) (Frm.of_set _ _ _ rfl)) (Frm.of_set _ _ _ rfl)) (Frm.of_set _ _ _ rfl)) (Frm.of_set _ _ _ rfl)) (Frm.of_set _ _ _ rfl)) ?_; clear hK K q5 r5 q6 r6 q7 r7 q8 r8 q9 r9 q10 r10
  obtain ⟨W2, hW2⟩ : ∃ W2, W2 = ((((((W1.setCell ⟨P, 5, none⟩ (.int .i64 0)).setCell ⟨P, 6, none⟩ (.int .i64 s)).setCell ⟨P, 7, none⟩ (.int .i64 k)).setCell ⟨P, 8, none⟩ (.int .i64 i)).setCell ⟨P, 9, none⟩ (.int .i64 m)).setCell ⟨P, 10, none⟩ (.string d)) := ⟨_, rfl⟩
  have KP2 : Hid (Blk W2 P 32 #[v, .int .i64 s, .int .i64 l1, .int .i64 l2, .int .i64 l3, .int .i64 0, .int .i64 s, .int .i64 k, .int .i64 i, .int .i64 m, .string d, .int .i64 (wq o1).c, .int .i64 (wq o1).s, .int .i64 (wq o1).k, .int .i64 (wq o1).i, .int .i64 (wq o1).m, .string (wq o1).d, .int .i64 (wq o2).c, .int .i64 (wq o2).s, .int .i64 (wq o2).k, .int .i64 (wq o2).i, .int .i64 (wq o2).m, .string (wq o2).d, .int .i64 (wq o3).c, .int .i64 (wq o3).s, .int .i64 (wq o3).k, .int .i64 (wq o3).i, .int .i64 (wq o3).m, .string (wq o3).d]) := by (show Blk _ _ _ _); rw [hW2]; exact ((((((KP1.out.set 5 (.int .i64 0)).set 6 (.int .i64 s)).set 7 (.int .i64 k)).set 8 (.int .i64 i)).set 9 (.int .i64 m)).set 10 (.string d))
  have F2 : Hid (Frm (fun k => k = P) Wa.drew W2) := by (show Frm _ _ _); rw [hW2]; exact Frm.tr (Frm.tr (Frm.tr (Frm.tr (Frm.tr (Frm.tr (F1.out) (Frm.of_set _ _ _ rfl)) (Frm.of_set _ _ _ rfl)) (Frm.of_set _ _ _ rfl)) (Frm.of_set _ _ _ rfl)) (Frm.of_set _ _ _ rfl)) (Frm.of_set _ _ _ rfl)
  have E9 : Hid (Frm (fun k => k = P) Wa W2) := Frm.tr E0f.out F2.out
  try rw [← hW2]
  clear hW2
  try simp only [Act.put, List.setIfInBounds_toArray, List.set_cons_zero, List.set_cons_succ]
  refine rz_done (by kernel_rfl) ?_ _
  try go_wp2_with fail
  have EP2 : Hid (Frm (fun k => k = P) w W2) := Frm.tr (Frm.of_below EaX.out _) E9.out
  have HKQ2 := Lib.hid (HKQa.out.frm E9.out hgne)
  have HOWN2 := Lib.hid (own_frmN HOWN.out EP2.out (fun k hk e => HNP.out (by rw [← e, ← hk]; exact HG.out)))
  clear z0 z1 z2 z3 z4 z5
  have hgG : ¬ some g = G := fun e => by
    obtain ⟨cs, hc⟩ := own_blk HOWN2.out (HG.out.trans e.symm)
    exact Blk.apart HKQ2.out hc (by decide) rfl
  have z0 : ∀ V, Frm (fun k => some k = G) W2 V → V.cell? ⟨g, 0, none⟩ = some (.int .i64 0) := fun V h => ((HKQ2.out.frm h hgG)).cell 0
  have z1 : ∀ V, Frm (fun k => some k = G) W2 V → V.cell? ⟨g, 1, none⟩ = some (.int .i64 s) := fun V h => ((HKQ2.out.frm h hgG)).cell 1
  have z2 : ∀ V, Frm (fun k => some k = G) W2 V → V.cell? ⟨g, 2, none⟩ = some (.int .i64 k) := fun V h => ((HKQ2.out.frm h hgG)).cell 2
  have z3 : ∀ V, Frm (fun k => some k = G) W2 V → V.cell? ⟨g, 3, none⟩ = some (.int .i64 i) := fun V h => ((HKQ2.out.frm h hgG)).cell 3
  have z4 : ∀ V, Frm (fun k => some k = G) W2 V → V.cell? ⟨g, 4, none⟩ = some (.int .i64 m) := fun V h => ((HKQ2.out.frm h hgG)).cell 4
  have z5 : ∀ V, Frm (fun k => some k = G) W2 V → V.cell? ⟨g, 5, none⟩ = some (.string d) := fun V h => ((HKQ2.out.frm h hgG)).cell 5
  have y0 : ∀ V, Frm (fun k => some k = G) W2 V → V.cell? ⟨P, 0, none⟩ = some (v) := fun V h => (KP2.out.frm h HNP.out).cell 0
  have Xe : Hid (Ext W2 W2.drew) := (Ext.refl _).drewR
  have E0g : Hid (Frm (fun k => some k = G) W2 W2.drew) := Frm.of_below Xe.out _
  refine rz_begin (fun k => some k = G) [15] (by kernel_rfl) ?_
  refine rz_take [13, 14, 15] (i := 0) (v := ?_) rfl (by kernel_rfl) (by kernel_rfl) (by kernel_rfl) (by kernel_rfl) (by kernel_rfl) (by kernel_rfl) (fun _ _ _ h => h) (by rfl) ?_ ?_
  rotate_left
  · intro W hW; have hW0 := Frm.tr E0g.out hW; clear hW; go_simp <;> with_reducible rfl
  try simp only [Act.put, List.setIfInBounds_toArray, List.set_cons_zero, List.set_cons_succ]
  refine rz_take [2, 3, 4, 12, 13, 14, 15] (i := 1) (v := ?_) rfl (by kernel_rfl) (by kernel_rfl) (by kernel_rfl) (by kernel_rfl) (by kernel_rfl) (by kernel_rfl) (fun _ _ _ h => h) (by rfl) ?_ ?_
  rotate_left
  · intro W hW; have hW0 := Frm.tr E0g.out hW; clear hW; go_simp <;> with_reducible rfl
  try simp only [Act.put, List.setIfInBounds_toArray, List.set_cons_zero, List.set_cons_succ]
  refine rz_take [3, 4, 12, 13, 14, 15] (i := 2) (v := ?_) rfl (by kernel_rfl) (by kernel_rfl) (by kernel_rfl) (by kernel_rfl) (by kernel_rfl) (by kernel_rfl) (fun _ _ _ h => h) (by rfl) ?_ ?_
  rotate_left
  · intro W hW; have hW0 := Frm.tr E0g.out hW; clear hW; go_simp <;> with_reducible rfl
  try simp only [Act.put, List.setIfInBounds_toArray, List.set_cons_zero, List.set_cons_succ]
  refine rz_take [4, 12, 13, 14, 15] (i := 3) (v := ?_) rfl (by kernel_rfl) (by kernel_rfl) (by kernel_rfl) (by kernel_rfl) (by kernel_rfl) (by kernel_rfl) (fun _ _ _ h => h) (by rfl) ?_ ?_
  rotate_left
  · intro W hW; have hW0 := Frm.tr E0g.out hW; clear hW; go_simp <;> with_reducible rfl
  try simp only [Act.put, List.setIfInBounds_toArray, List.set_cons_zero, List.set_cons_succ]
  refine rz_take [12, 13, 14, 15] (i := 4) (v := ?_) rfl (by kernel_rfl) (by kernel_rfl) (by kernel_rfl) (by kernel_rfl) (by kernel_rfl) (by kernel_rfl) (fun _ _ _ h => h) (by rfl) ?_ ?_
  rotate_left
  · intro W hW; have hW0 := Frm.tr E0g.out hW; clear hW; go_simp <;> with_reducible rfl
  try simp only [Act.put, List.setIfInBounds_toArray, List.set_cons_zero, List.set_cons_succ]
  refine rz_take [6, 10, 11, 12, 13, 14, 15] (i := 5) (v := ?_) rfl (by kernel_rfl) (by kernel_rfl) (by kernel_rfl) (by kernel_rfl) (by kernel_rfl) (by kernel_rfl) (fun _ _ _ h => h) (by rfl) ?_ ?_
  rotate_left
  · intro W hW; have hW0 := Frm.tr E0g.out hW; clear hW; go_simp <;> with_reducible rfl
  try simp only [Act.put, List.setIfInBounds_toArray, List.set_cons_zero, List.set_cons_succ]
  refine rz_take [10, 11, 12, 13, 14, 15] (i := 6) (v := ?_) rfl (by kernel_rfl) (by kernel_rfl) (by kernel_rfl) (by kernel_rfl) (by kernel_rfl) (by kernel_rfl) (fun _ _ _ h => h) (by rfl) ?_ ?_
  rotate_left
  · intro W hW; have hW0 := Frm.tr E0g.out hW; clear hW; go_simp <;> with_reducible rfl
  try simp only [Act.put, List.setIfInBounds_toArray, List.set_cons_zero, List.set_cons_succ]
  refine rz_take [8, 10, 11, 12, 13, 14, 15] (i := 7) (v := ?_) rfl (by kernel_rfl) (by kernel_rfl) (by kernel_rfl) (by kernel_rfl) (by kernel_rfl) (by kernel_rfl) (fun _ _ _ h => h) (by rfl) ?_ ?_
  rotate_left
  · intro W hW; have hW0 := Frm.tr E0g.out hW; clear hW; go_simp <;> with_reducible rfl
  try simp only [Act.put, List.setIfInBounds_toArray, List.set_cons_zero, List.set_cons_succ]
  refine rz_take [10, 11, 12, 13, 14, 15] (i := 8) (v := ?_) rfl (by kernel_rfl) (by kernel_rfl) (by kernel_rfl) (by kernel_rfl) (by kernel_rfl) (by kernel_rfl) (fun _ _ _ h => h) (by rfl) ?_ ?_
  rotate_left
  · intro W hW; have hW0 := Frm.tr E0g.out hW; clear hW; go_simp <;> with_reducible rfl
  try simp only [Act.put, List.setIfInBounds_toArray, List.set_cons_zero, List.set_cons_succ]
  refine rz_take [10, 11, 12, 13, 14, 15] (i := 9) (v := ?_) rfl (by kernel_rfl) (by kernel_rfl) (by kernel_rfl) (by kernel_rfl) (by kernel_rfl) (by kernel_rfl) (fun _ _ _ h => h) (by rfl) ?_ ?_
  rotate_left
  · intro W hW; have hW0 := Frm.tr E0g.out hW; clear hW; go_simp <;> with_reducible rfl
  try simp only [Act.put, List.setIfInBounds_toArray, List.set_cons_zero, List.set_cons_succ]
  refine rz_take [11, 12, 13, 14, 15] (i := 10) (v := ?_) rfl (by kernel_rfl) (by kernel_rfl) (by kernel_rfl) (by kernel_rfl) (by kernel_rfl) (by kernel_rfl) (fun _ _ _ h => h) (by rfl) ?_ ?_
  rotate_left
  · intro W hW; have hW0 := Frm.tr E0g.out hW; clear hW; go_simp <;> with_reducible rfl
  try simp only [Act.put, List.setIfInBounds_toArray, List.set_cons_zero, List.set_cons_succ]
  refine rz_call (i := 11) rfl (by kernel_rfl) (by rfl) (fun K hK => ?_)
  go_simp
  refine hK _ _ (Frm.of_alloc _ _ _) ?_; clear hK K
  obtain ⟨W3, hW3⟩ : ∃ W3, W3 = (W2.alloc (.cells #[.int .i64 0, .int .i64 s, .bool false, .int .i64 0, .int .i64 s, .int .i64 k, .int .i64 i, .int .i64 m, .string d, .int .i64 0, .int .i64 0, .string ⟨#[]⟩, .slice none 0 0, .int .i64 0] 50)).drew := ⟨_, rfl⟩
  have KR3 : Hid (Blk W3 W2.drew.heap.size 50 #[.int .i64 0, .int .i64 s, .bool false, .int .i64 0, .int .i64 s, .int .i64 k, .int .i64 i, .int .i64 m, .string d, .int .i64 0, .int .i64 0, .string ⟨#[]⟩, .slice none 0 0, .int .i64 0]) := by (show Blk _ _ _ _); rw [hW3]; exact Blk.new W2.drew _ _
  have X3 : Hid (Ext W2.drew W3) := by (show Ext _ _); rw [hW3]; exact Ext.alloc W2.drew _
  have E3 : Hid (Frm (fun k => some k = G) W2 W3) := Frm.tr E0g.out (Frm.of_below X3.out _)
  try rw [← hW3]
  clear hW3
  try simp only [Act.put, List.setIfInBounds_toArray, List.set_cons_zero, List.set_cons_succ]
  refine rz_call (i := 12) rfl (by kernel_rfl) (by rfl) (fun K hK => ?_)
  refine wp_append_wide (.tmp 49) (.tmp 56) 26 rfl base 50 _ 14 144 Try.underlying26 info_act rfl (by decide) (by decide) v L.length (flatA L) rfl (own_frmN HOWN2.out (Frm.of_below (Ext.trans Xe.out X3.out) (fun _ => False)) (fun _ _ h => h)) W2.drew.heap.size [.int .i64 0, .int .i64 s, .bool false, .int .i64 0, .int .i64 s, .int .i64 k, .int .i64 i, .int .i64 m, .string d, .int .i64 0, .int .i64 0, .string ⟨#[]⟩, .slice none 0 0, .int .i64 0] rfl rfl KR3.out (by intro y hy; simp at hy; rcases hy with rfl | rfl | rfl | rfl | rfl | rfl | rfl | rfl | rfl | rfl | rfl | rfl | rfl | rfl <;> rfl) HLN.out (Nat.le_trans HBS.out (Nat.le_trans (Frm.tr EP2.out (Frm.of_below Xe.out _)).size X3.out.size)) ?_
  intro v2 W4 oo gg bb
  obtain ⟨A2, cap2, hv2⟩ := own_shape oo
  subst hv2
  refine hK _ _ (Frm.of_grown gg (fun k hk => hk.trans HG.out)) ?_; clear hK K
  have O4 := Lib.hid oo
  have BB4 := Lib.hid bb
  have E4 : Hid (Frm (fun k => some k = G) W2 W4) := Frm.tr E3.out (Frm.of_grown gg (fun k hk => hk.trans HG.out))
  clear oo gg bb
  have KP4 : Hid (Blk W4 P 32 #[v, .int .i64 s, .int .i64 l1, .int .i64 l2, .int .i64 l3, .int .i64 0, .int .i64 s, .int .i64 k, .int .i64 i, .int .i64 m, .string d, .int .i64 (wq o1).c, .int .i64 (wq o1).s, .int .i64 (wq o1).k, .int .i64 (wq o1).i, .int .i64 (wq o1).m, .string (wq o1).d, .int .i64 (wq o2).c, .int .i64 (wq o2).s, .int .i64 (wq o2).k, .int .i64 (wq o2).i, .int .i64 (wq o2).m, .string (wq o2).d, .int .i64 (wq o3).c, .int .i64 (wq o3).s, .int .i64 (wq o3).k, .int .i64 (wq o3).i, .int .i64 (wq o3).m, .string (wq o3).d]) := KP2.out.frm E4.out (fun e => HNP.out e)
  try simp only [Act.put, List.setIfInBounds_toArray, List.set_cons_zero, List.set_cons_succ]
  refine rz_take [14, 15] (i := 13) (v := ?_) rfl (by kernel_rfl) (by kernel_rfl) (by kernel_rfl) (by kernel_rfl) (by kernel_rfl) (by kernel_rfl) (fun _ _ _ h => h) (by rfl) ?_ ?_
  rotate_left
  · intro W hW; have hW0 := Frm.tr E4.out hW; clear hW; go_simp <;> with_reducible rfl
  try simp only [Act.put, List.setIfInBounds_toArray, List.set_cons_zero, List.set_cons_succ]
  refine rz_take [15] (i := 14) (v := ?_) rfl (by kernel_rfl) (by kernel_rfl) (by kernel_rfl) (by kernel_rfl) (by kernel_rfl) (by kernel_rfl) (fun _ _ _ h => h) (by rfl) ?_ ?_
  rotate_left
  · intro W hW; have hW0 := Frm.tr E4.out hW; clear hW; go_simp <;> with_reducible rfl
  try simp only [Act.put, List.setIfInBounds_toArray, List.set_cons_zero, List.set_cons_succ]
  refine rz_last (i := 15) rfl (by kernel_rfl) (by rfl) (by rfl) (fun K hK => ?_)
  have q1 := KP4.out.frozen 0
  have r1 := KP4.out.cell 0
  simp at r1
  go_simp
  refine hK _ _ ?_; clear hK K q1 r1
  obtain ⟨W5, hW5⟩ : ∃ W5, W5 = W4.setCell ⟨P, 0, none⟩ (.slice A2 (L.length + 1) cap2) := ⟨_, rfl⟩
  have KP5 : Hid (Blk W5 P 32 #[.slice A2 (L.length + 1) cap2, .int .i64 s, .int .i64 l1, .int .i64 l2, .int .i64 l3, .int .i64 0, .int .i64 s, .int .i64 k, .int .i64 i, .int .i64 m, .string d, .int .i64 (wq o1).c, .int .i64 (wq o1).s, .int .i64 (wq o1).k, .int .i64 (wq o1).i, .int .i64 (wq o1).m, .string (wq o1).d, .int .i64 (wq o2).c, .int .i64 (wq o2).s, .int .i64 (wq o2).k, .int .i64 (wq o2).i, .int .i64 (wq o2).m, .string (wq o2).d, .int .i64 (wq o3).c, .int .i64 (wq o3).s, .int .i64 (wq o3).k, .int .i64 (wq o3).i, .int .i64 (wq o3).m, .string (wq o3).d]) := by (show Blk _ _ _ _); rw [hW5]; exact KP4.out.set 0 _
  have F5 : Hid (Frm (fun k => k = P) W4 W5) := by (show Frm _ _ _); rw [hW5]; exact Frm.of_set _ _ _ rfl
  try rw [← hW5]
  clear hW5
  try simp only [Act.put, List.setIfInBounds_toArray, List.set_cons_zero, List.set_cons_succ]
  refine rz_done (by kernel_rfl) ?_ _
  clear z0 z1 z2 z3 z4 z5 y0
  go_wp2_with fail
  try go_ret
  have hqq : ∀ k cs, Blk w k 3 cs → ¬ k = P := fun k cs h e => by
    subst e
    exact Blk.apart HKPw.out h (by decide) rfl
  have hqg : ∀ k cs, Blk w k 3 cs → ¬ some k = G := fun k cs h e => by
    obtain ⟨cs', hc⟩ := own_blk HOWNw.out (HG.out.trans e.symm)
    exact Blk.apart hc h (by decide) rfl
  have FA : Frm (Psel P G) w W5 := Frm.tr (EP2.out.mono (fun k hk => Or.inl hk)) (Frm.tr (E4.out.mono (fun k hk => Or.inr hk)) (F5.out.mono (fun k hk => Or.inl hk)))
  have hkeep : ∀ k cs, Blk w k 3 cs → Blk W5 k 3 cs := fun k cs h => h.frm FA (fun hh => by
    rcases hh with hh | hh
    · exact hqq k cs h hh
    · exact hqg k cs h hh)
  have O5 : W5.ownsRow base 50 14 (.slice A2 (L.length + 1) cap2) (L ++ [At.mk (Ac.mk 0 s false (Rqv.mk 0 s k i m d) Rpv.zero 0) none 0]).length (flatA (L ++ [At.mk (Ac.mk 0 s false (Rqv.mk 0 s k i m d) Rpv.zero 0) none 0])) := by
    rw [flatA_append, List.length_append]
    exact own_frmN O4.out F5.out (fun k hk e => own_blkne O4.out KP4.out (by decide) k hk e)
  refine hD.out _ _ ⟨rfl, _, ⟨HBP.out, .slice A2 (L.length + 1) cap2, s, l1, l2, l3, some ⟨0, s, k, i, m, d⟩, o1, o2, o3, L ++ [At.mk (Ac.mk 0 s false (Rqv.mk 0 s k i m d) Rpv.zero 0) none 0], KP5.out, ?_, ?_, O5, rfl, ?_, ?_⟩, FA, ?_⟩
  · show st.last.set 0 s = _
    rw [HLS.out]; rfl
  · show st.wait.set 0 (some ⟨0, s, k, i, m, d⟩) = _
    rw [HWS.out]; rfl
  · rw [List.map_append, HL.out]; rfl
  · intro t ht
    rw [List.mem_append, List.mem_singleton] at ht
    rcases ht with ht | rfl
    · exact (HIN.out t ht).of (fun k cs h => hkeep k cs h)
    · exact In.nil _
  · rcases BB4.out with h5 | h5
    · exact .inl (h5.trans HG.out)
    · exact .inr ⟨_, h5, Nat.le_trans EaX.out.size (Nat.le_trans E0f.out.size (Nat.le_trans F2.out.size (Nat.le_trans Xe.out.size X3.out.size)))⟩

set_option maxRecDepth 8000 in
set_option maxHeartbeats 8000000 in
theorem rask_wait1 (base P : Nat) (G : Option Nat) (st : Ps) (s k i m : Int) (d : ByteArray) (xc xs xk xi xm : Int) (xd : ByteArray) (w : World) (H : RAt w base P G st) (hd : d.size ≤ maxLen) (hm : mayReqB 1 s k i m d.size = true) (hs : st.w 1 = some ⟨xc, xs, xk, xi, xm, xd⟩) (hx1 : 1 ≤ xs) :
    Calls Try.prog 12 #[.pointer (some ⟨P, 0, none⟩), .agg #[.int .i64 1, .int .i64 s, .int .i64 k, .int .i64 i, .int .i64 m, .string d]] w fun e w' => e = .returned (.int .i64 4) ∧ Ext w w' := by
  refine hide_post fun D hD => ?_
  obtain ⟨hbP, v, l0, l1, l2, l3, o0, o1, o2, o3, L, kP, hl, hw, hown, hG, hL, hin⟩ := H
  obtain ⟨w0, hw0⟩ : ∃ w0, w0 = w.alloc (.cells #[.int .i64 1, .int .i64 s, .int .i64 k, .int .i64 i, .int .i64 m, .string d] 29) := ⟨_, rfl⟩
  have hb0 : Ext w w0 := by rw [hw0]; exact Ext.alloc _ _
  have KQ : Hid (Blk w0 w.heap.size 29 #[.int .i64 1, .int .i64 s, .int .i64 k, .int .i64 i, .int .i64 m, .string d]) := by show Blk _ _ _ _; rw [hw0]; exact Blk.new _ _ _
  have CM : Hid (∀ V, Calls Try.prog 37 #[.agg #[.int .i64 1, .int .i64 s, .int .i64 k, .int .i64 i, .int .i64 m, .string d]] V fun e w' => e = .returned (.bool true) ∧ Ext V w') := fun V => by rw [← hm]; exact refMayReq_any 1 s k i m d V hd
  have X0 : Hid (Ext w w0) := hb0
  have HW := Lib.hid hw0
  have ho : o1 = some ⟨xc, xs, xk, xi, xm, xd⟩ := by unfold Ps.w at hs; rw [hw] at hs; exact hs
  subst ho
  have hx2 : 0 < xs := by omega
  have y0 : ∀ V, Ext w0 V → V.cell? ⟨P, 0, none⟩ = some (v) := fun V h => (((kP.stay hb0).stay h)).cell 0
  have y2 : ∀ V, Ext w0 V → V.cell? ⟨P, 2, none⟩ = some (.int .i64 l1) := fun V h => (((kP.stay hb0).stay h)).cell 2
  have y11 : ∀ V, Ext w0 V → V.cell? ⟨P, 11, none⟩ = some (.int .i64 xc) := fun V h => (((kP.stay hb0).stay h)).cell 11
  have y12 : ∀ V, Ext w0 V → V.cell? ⟨P, 12, none⟩ = some (.int .i64 xs) := fun V h => (((kP.stay hb0).stay h)).cell 12
  have y13 : ∀ V, Ext w0 V → V.cell? ⟨P, 13, none⟩ = some (.int .i64 xk) := fun V h => (((kP.stay hb0).stay h)).cell 13
  have y14 : ∀ V, Ext w0 V → V.cell? ⟨P, 14, none⟩ = some (.int .i64 xi) := fun V h => (((kP.stay hb0).stay h)).cell 14
  have y15 : ∀ V, Ext w0 V → V.cell? ⟨P, 15, none⟩ = some (.int .i64 xm) := fun V h => (((kP.stay hb0).stay h)).cell 15
  have y16 : ∀ V, Ext w0 V → V.cell? ⟨P, 16, none⟩ = some (.string xd) := fun V h => (((kP.stay hb0).stay h)).cell 16
  have z0 : ∀ V, Ext w0 V → V.cell? ⟨w.heap.size, 0, none⟩ = some (.int .i64 1) := fun V h => ((KQ.out.stay h)).cell 0
  have z1 : ∀ V, Ext w0 V → V.cell? ⟨w.heap.size, 1, none⟩ = some (.int .i64 s) := fun V h => ((KQ.out.stay h)).cell 1
  have z2 : ∀ V, Ext w0 V → V.cell? ⟨w.heap.size, 2, none⟩ = some (.int .i64 k) := fun V h => ((KQ.out.stay h)).cell 2
  have z3 : ∀ V, Ext w0 V → V.cell? ⟨w.heap.size, 3, none⟩ = some (.int .i64 i) := fun V h => ((KQ.out.stay h)).cell 3
  have z4 : ∀ V, Ext w0 V → V.cell? ⟨w.heap.size, 4, none⟩ = some (.int .i64 m) := fun V h => ((KQ.out.stay h)).cell 4
  have z5 : ∀ V, Ext w0 V → V.cell? ⟨w.heap.size, 5, none⟩ = some (.string d) := fun V h => ((KQ.out.stay h)).cell 5
  clear hb0 hw0 kP hl hw hown hG hL hin hm hd hs hx1
  go_enter Try.func12, Try.ntmps12
  go_wp2_with (go_at_call 37; rw [← HW.out]; (with_reducible refine (CM.out _).mono ?_); rintro e w1 ⟨rfl, hx⟩; have E1 : Hid (Ext w0 w1) := hx; clear hx)
  refine ext_begin (by kernel_rfl) ?_
  have E1d := Lib.hid (Ext.drewR E1.out)
  refine ext_take (i := 0) (v := ?_) rfl (by kernel_rfl) (by kernel_rfl) (by kernel_rfl) (fun _ _ _ h => h) (by rfl) ?_ ?_
  rotate_left
  · intro W hW; have hW0 := Ext.trans E1d.out hW; clear hW; go_simp <;> with_reducible rfl
  try simp only [Act.put, List.setIfInBounds_toArray, List.set_cons_zero, List.set_cons_succ]
  refine ext_take (i := 1) (v := ?_) rfl (by kernel_rfl) (by kernel_rfl) (by kernel_rfl) (fun _ _ _ h => h) (by rfl) ?_ ?_
  rotate_left
  · intro W hW; have hW0 := Ext.trans E1d.out hW; clear hW; go_simp <;> with_reducible rfl
  try simp only [Act.put, List.setIfInBounds_toArray, List.set_cons_zero, List.set_cons_succ]
  refine ext_take (i := 2) (v := ?_) rfl (by kernel_rfl) (by kernel_rfl) (by kernel_rfl) (fun _ _ _ h => h) (by rfl) ?_ ?_
  rotate_left
  · intro W hW; have hW0 := Ext.trans E1d.out hW; clear hW; go_simp <;> with_reducible rfl
  try simp only [Act.put, List.setIfInBounds_toArray, List.set_cons_zero, List.set_cons_succ]
  refine ext_take (i := 3) (v := ?_) rfl (by kernel_rfl) (by kernel_rfl) (by kernel_rfl) (fun _ _ _ h => h) (by rfl) ?_ ?_
  rotate_left
  · intro W hW; have hW0 := Ext.trans E1d.out hW; clear hW; go_simp <;> with_reducible rfl
  try simp only [Act.put, List.setIfInBounds_toArray, List.set_cons_zero, List.set_cons_succ]
  refine ext_take (i := 4) (v := ?_) rfl (by kernel_rfl) (by kernel_rfl) (by kernel_rfl) (fun _ _ _ h => h) (by rfl) ?_ ?_
  rotate_left
  · intro W hW; have hW0 := Ext.trans E1d.out hW; clear hW; go_simp <;> with_reducible rfl
  try simp only [Act.put, List.setIfInBounds_toArray, List.set_cons_zero, List.set_cons_succ]
  refine ext_take (i := 5) (v := ?_) rfl (by kernel_rfl) (by kernel_rfl) (by kernel_rfl) (fun _ _ _ h => h) (by rfl) ?_ ?_
  rotate_left
  · intro W hW; have hW0 := Ext.trans E1d.out hW; clear hW; go_simp <;> with_reducible rfl
  try simp only [Act.put, List.setIfInBounds_toArray, List.set_cons_zero, List.set_cons_succ]
  refine ext_take (i := 6) (v := ?_) rfl (by kernel_rfl) (by kernel_rfl) (by kernel_rfl) (fun _ _ _ h => h) (by rfl) ?_ ?_
  rotate_left
  · intro W hW; have hW0 := Ext.trans E1d.out hW; clear hW; go_simp <;> with_reducible rfl
  try simp only [Act.put, List.setIfInBounds_toArray, List.set_cons_zero, List.set_cons_succ]
  refine ext_take (i := 7) (v := ?_) rfl (by kernel_rfl) (by kernel_rfl) (by kernel_rfl) (fun _ _ _ h => h) (by rfl) ?_ ?_
  rotate_left
  · intro W hW; have hW0 := Ext.trans E1d.out hW; clear hW; go_simp <;> with_reducible rfl
  try simp only [Act.put, List.setIfInBounds_toArray, List.set_cons_zero, List.set_cons_succ]
  refine ext_take (i := 8) (v := ?_) rfl (by kernel_rfl) (by kernel_rfl) (by kernel_rfl) (fun _ _ _ h => h) (by rfl) ?_ ?_
  rotate_left
  · intro W hW; have hW0 := Ext.trans E1d.out hW; clear hW; go_simp <;> with_reducible rfl
  try simp only [Act.put, List.setIfInBounds_toArray, List.set_cons_zero, List.set_cons_succ]
  refine ext_take (i := 9) (v := ?_) rfl (by kernel_rfl) (by kernel_rfl) (by kernel_rfl) (fun _ _ _ h => h) (by rfl) ?_ ?_
  rotate_left
  · intro W hW; have hW0 := Ext.trans E1d.out hW; clear hW; go_simp <;> with_reducible rfl
  try simp only [Act.put, List.setIfInBounds_toArray, List.set_cons_zero, List.set_cons_succ]
  refine wpAnyH_done (by kernel_rfl) ?_ _
  have EX := Lib.hid E1d.out
  clear E1d
  try go_wp2_with fail
  try go_ret
  exact hD.out _ _ ⟨rfl, Ext.trans X0.out EX.out⟩

set_option maxRecDepth 8000 in
set_option maxHeartbeats 8000000 in
theorem rask_old1 (base P : Nat) (G : Option Nat) (st : Ps) (s k i m : Int) (d : ByteArray) (w : World) (H : RAt w base P G st) (hd : d.size ≤ maxLen) (hm : mayReqB 1 s k i m d.size = true) (hs : st.w 1 = none) (ht : s ≤ st.la 1) :
    Calls Try.prog 12 #[.pointer (some ⟨P, 0, none⟩), .agg #[.int .i64 1, .int .i64 s, .int .i64 k, .int .i64 i, .int .i64 m, .string d]] w fun e w' => e = .returned (.int .i64 9) ∧ Ext w w' := by
  refine hide_post fun D hD => ?_
  obtain ⟨hbP, v, l0, l1, l2, l3, o0, o1, o2, o3, L, kP, hl, hw, hown, hG, hL, hin⟩ := H
  obtain ⟨w0, hw0⟩ : ∃ w0, w0 = w.alloc (.cells #[.int .i64 1, .int .i64 s, .int .i64 k, .int .i64 i, .int .i64 m, .string d] 29) := ⟨_, rfl⟩
  have hb0 : Ext w w0 := by rw [hw0]; exact Ext.alloc _ _
  have KQ : Hid (Blk w0 w.heap.size 29 #[.int .i64 1, .int .i64 s, .int .i64 k, .int .i64 i, .int .i64 m, .string d]) := by show Blk _ _ _ _; rw [hw0]; exact Blk.new _ _ _
  have CM : Hid (∀ V, Calls Try.prog 37 #[.agg #[.int .i64 1, .int .i64 s, .int .i64 k, .int .i64 i, .int .i64 m, .string d]] V fun e w' => e = .returned (.bool true) ∧ Ext V w') := fun V => by rw [← hm]; exact refMayReq_any 1 s k i m d V hd
  have X0 : Hid (Ext w w0) := hb0
  have HW := Lib.hid hw0
  have ho : o1 = none := by unfold Ps.w at hs; rw [hw] at hs; exact hs
  subst ho
  have hlc : l1 = st.la 1 := by unfold Ps.la; rw [hl]; rfl
  rw [← hlc] at ht
  have y0 : ∀ V, Ext w0 V → V.cell? ⟨P, 0, none⟩ = some (v) := fun V h => (((kP.stay hb0).stay h)).cell 0
  have y2 : ∀ V, Ext w0 V → V.cell? ⟨P, 2, none⟩ = some (.int .i64 l1) := fun V h => (((kP.stay hb0).stay h)).cell 2
  have y11 : ∀ V, Ext w0 V → V.cell? ⟨P, 11, none⟩ = some (.int .i64 0) := fun V h => (((kP.stay hb0).stay h)).cell 11
  have y12 : ∀ V, Ext w0 V → V.cell? ⟨P, 12, none⟩ = some (.int .i64 0) := fun V h => (((kP.stay hb0).stay h)).cell 12
  have y13 : ∀ V, Ext w0 V → V.cell? ⟨P, 13, none⟩ = some (.int .i64 0) := fun V h => (((kP.stay hb0).stay h)).cell 13
  have y14 : ∀ V, Ext w0 V → V.cell? ⟨P, 14, none⟩ = some (.int .i64 0) := fun V h => (((kP.stay hb0).stay h)).cell 14
  have y15 : ∀ V, Ext w0 V → V.cell? ⟨P, 15, none⟩ = some (.int .i64 0) := fun V h => (((kP.stay hb0).stay h)).cell 15
  have y16 : ∀ V, Ext w0 V → V.cell? ⟨P, 16, none⟩ = some (.string ⟨#[]⟩) := fun V h => (((kP.stay hb0).stay h)).cell 16
  have z0 : ∀ V, Ext w0 V → V.cell? ⟨w.heap.size, 0, none⟩ = some (.int .i64 1) := fun V h => ((KQ.out.stay h)).cell 0
  have z1 : ∀ V, Ext w0 V → V.cell? ⟨w.heap.size, 1, none⟩ = some (.int .i64 s) := fun V h => ((KQ.out.stay h)).cell 1
  have z2 : ∀ V, Ext w0 V → V.cell? ⟨w.heap.size, 2, none⟩ = some (.int .i64 k) := fun V h => ((KQ.out.stay h)).cell 2
  have z3 : ∀ V, Ext w0 V → V.cell? ⟨w.heap.size, 3, none⟩ = some (.int .i64 i) := fun V h => ((KQ.out.stay h)).cell 3
  have z4 : ∀ V, Ext w0 V → V.cell? ⟨w.heap.size, 4, none⟩ = some (.int .i64 m) := fun V h => ((KQ.out.stay h)).cell 4
  have z5 : ∀ V, Ext w0 V → V.cell? ⟨w.heap.size, 5, none⟩ = some (.string d) := fun V h => ((KQ.out.stay h)).cell 5
  clear hb0 hw0 kP hl hw hown hG hL hin hm hd hs hlc
  go_enter Try.func12, Try.ntmps12
  go_wp2_with (go_at_call 37; rw [← HW.out]; (with_reducible refine (CM.out _).mono ?_); rintro e w1 ⟨rfl, hx⟩; have E1 : Hid (Ext w0 w1) := hx; clear hx)
  refine ext_begin (by kernel_rfl) ?_
  have E1d := Lib.hid (Ext.drewR E1.out)
  refine ext_take (i := 0) (v := ?_) rfl (by kernel_rfl) (by kernel_rfl) (by kernel_rfl) (fun _ _ _ h => h) (by rfl) ?_ ?_
  rotate_left
  · intro W hW; have hW0 := Ext.trans E1d.out hW; clear hW; go_simp <;> with_reducible rfl
  try simp only [Act.put, List.setIfInBounds_toArray, List.set_cons_zero, List.set_cons_succ]
  refine ext_take (i := 1) (v := ?_) rfl (by kernel_rfl) (by kernel_rfl) (by kernel_rfl) (fun _ _ _ h => h) (by rfl) ?_ ?_
  rotate_left
  · intro W hW; have hW0 := Ext.trans E1d.out hW; clear hW; go_simp <;> with_reducible rfl
  try simp only [Act.put, List.setIfInBounds_toArray, List.set_cons_zero, List.set_cons_succ]
  refine ext_take (i := 2) (v := ?_) rfl (by kernel_rfl) (by kernel_rfl) (by kernel_rfl) (fun _ _ _ h => h) (by rfl) ?_ ?_
  rotate_left
  · intro W hW; have hW0 := Ext.trans E1d.out hW; clear hW; go_simp <;> with_reducible rfl
  try simp only [Act.put, List.setIfInBounds_toArray, List.set_cons_zero, List.set_cons_succ]
  refine ext_take (i := 3) (v := ?_) rfl (by kernel_rfl) (by kernel_rfl) (by kernel_rfl) (fun _ _ _ h => h) (by rfl) ?_ ?_
  rotate_left
  · intro W hW; have hW0 := Ext.trans E1d.out hW; clear hW; go_simp <;> with_reducible rfl
  try simp only [Act.put, List.setIfInBounds_toArray, List.set_cons_zero, List.set_cons_succ]
  refine ext_take (i := 4) (v := ?_) rfl (by kernel_rfl) (by kernel_rfl) (by kernel_rfl) (fun _ _ _ h => h) (by rfl) ?_ ?_
  rotate_left
  · intro W hW; have hW0 := Ext.trans E1d.out hW; clear hW; go_simp <;> with_reducible rfl
  try simp only [Act.put, List.setIfInBounds_toArray, List.set_cons_zero, List.set_cons_succ]
  refine ext_take (i := 5) (v := ?_) rfl (by kernel_rfl) (by kernel_rfl) (by kernel_rfl) (fun _ _ _ h => h) (by rfl) ?_ ?_
  rotate_left
  · intro W hW; have hW0 := Ext.trans E1d.out hW; clear hW; go_simp <;> with_reducible rfl
  try simp only [Act.put, List.setIfInBounds_toArray, List.set_cons_zero, List.set_cons_succ]
  refine ext_take (i := 6) (v := ?_) rfl (by kernel_rfl) (by kernel_rfl) (by kernel_rfl) (fun _ _ _ h => h) (by rfl) ?_ ?_
  rotate_left
  · intro W hW; have hW0 := Ext.trans E1d.out hW; clear hW; go_simp <;> with_reducible rfl
  try simp only [Act.put, List.setIfInBounds_toArray, List.set_cons_zero, List.set_cons_succ]
  refine ext_take (i := 7) (v := ?_) rfl (by kernel_rfl) (by kernel_rfl) (by kernel_rfl) (fun _ _ _ h => h) (by rfl) ?_ ?_
  rotate_left
  · intro W hW; have hW0 := Ext.trans E1d.out hW; clear hW; go_simp <;> with_reducible rfl
  try simp only [Act.put, List.setIfInBounds_toArray, List.set_cons_zero, List.set_cons_succ]
  refine ext_take (i := 8) (v := ?_) rfl (by kernel_rfl) (by kernel_rfl) (by kernel_rfl) (fun _ _ _ h => h) (by rfl) ?_ ?_
  rotate_left
  · intro W hW; have hW0 := Ext.trans E1d.out hW; clear hW; go_simp <;> with_reducible rfl
  try simp only [Act.put, List.setIfInBounds_toArray, List.set_cons_zero, List.set_cons_succ]
  refine ext_take (i := 9) (v := ?_) rfl (by kernel_rfl) (by kernel_rfl) (by kernel_rfl) (fun _ _ _ h => h) (by rfl) ?_ ?_
  rotate_left
  · intro W hW; have hW0 := Ext.trans E1d.out hW; clear hW; go_simp <;> with_reducible rfl
  try simp only [Act.put, List.setIfInBounds_toArray, List.set_cons_zero, List.set_cons_succ]
  refine wpAnyH_done (by kernel_rfl) ?_ _
  try go_wp2_with fail
  refine ext_begin (by kernel_rfl) ?_
  have E1dd := Lib.hid (Ext.drewR E1d.out)
  refine ext_take (i := 0) (v := ?_) rfl (by kernel_rfl) (by kernel_rfl) (by kernel_rfl) (fun _ _ _ h => h) (by rfl) ?_ ?_
  rotate_left
  · intro W hW; have hW0 := Ext.trans E1dd.out hW; clear hW; go_simp <;> with_reducible rfl
  try simp only [Act.put, List.setIfInBounds_toArray, List.set_cons_zero, List.set_cons_succ]
  refine ext_take (i := 1) (v := ?_) rfl (by kernel_rfl) (by kernel_rfl) (by kernel_rfl) (fun _ _ _ h => h) (by rfl) ?_ ?_
  rotate_left
  · intro W hW; have hW0 := Ext.trans E1dd.out hW; clear hW; go_simp <;> with_reducible rfl
  try simp only [Act.put, List.setIfInBounds_toArray, List.set_cons_zero, List.set_cons_succ]
  refine ext_take (i := 2) (v := ?_) rfl (by kernel_rfl) (by kernel_rfl) (by kernel_rfl) (fun _ _ _ h => h) (by rfl) ?_ ?_
  rotate_left
  · intro W hW; have hW0 := Ext.trans E1dd.out hW; clear hW; go_simp <;> with_reducible rfl
  try simp only [Act.put, List.setIfInBounds_toArray, List.set_cons_zero, List.set_cons_succ]
  refine ext_take (i := 3) (v := ?_) rfl (by kernel_rfl) (by kernel_rfl) (by kernel_rfl) (fun _ _ _ h => h) (by rfl) ?_ ?_
  rotate_left
  · intro W hW; have hW0 := Ext.trans E1dd.out hW; clear hW; go_simp <;> with_reducible rfl
  try simp only [Act.put, List.setIfInBounds_toArray, List.set_cons_zero, List.set_cons_succ]
  refine ext_take (i := 4) (v := ?_) rfl (by kernel_rfl) (by kernel_rfl) (by kernel_rfl) (fun _ _ _ h => h) (by rfl) ?_ ?_
  rotate_left
  · intro W hW; have hW0 := Ext.trans E1dd.out hW; clear hW; go_simp <;> with_reducible rfl
  try simp only [Act.put, List.setIfInBounds_toArray, List.set_cons_zero, List.set_cons_succ]
  refine ext_take (i := 5) (v := ?_) rfl (by kernel_rfl) (by kernel_rfl) (by kernel_rfl) (fun _ _ _ h => h) (by rfl) ?_ ?_
  rotate_left
  · intro W hW; have hW0 := Ext.trans E1dd.out hW; clear hW; go_simp <;> with_reducible rfl
  try simp only [Act.put, List.setIfInBounds_toArray, List.set_cons_zero, List.set_cons_succ]
  refine ext_take (i := 6) (v := ?_) rfl (by kernel_rfl) (by kernel_rfl) (by kernel_rfl) (fun _ _ _ h => h) (by rfl) ?_ ?_
  rotate_left
  · intro W hW; have hW0 := Ext.trans E1dd.out hW; clear hW; go_simp <;> with_reducible rfl
  try simp only [Act.put, List.setIfInBounds_toArray, List.set_cons_zero, List.set_cons_succ]
  refine ext_take (i := 7) (v := ?_) rfl (by kernel_rfl) (by kernel_rfl) (by kernel_rfl) (fun _ _ _ h => h) (by rfl) ?_ ?_
  rotate_left
  · intro W hW; have hW0 := Ext.trans E1dd.out hW; clear hW; go_simp <;> with_reducible rfl
  try simp only [Act.put, List.setIfInBounds_toArray, List.set_cons_zero, List.set_cons_succ]
  refine ext_take (i := 8) (v := ?_) rfl (by kernel_rfl) (by kernel_rfl) (by kernel_rfl) (fun _ _ _ h => h) (by rfl) ?_ ?_
  rotate_left
  · intro W hW; have hW0 := Ext.trans E1dd.out hW; clear hW; go_simp <;> with_reducible rfl
  try simp only [Act.put, List.setIfInBounds_toArray, List.set_cons_zero, List.set_cons_succ]
  refine ext_take (i := 9) (v := ?_) rfl (by kernel_rfl) (by kernel_rfl) (by kernel_rfl) (fun _ _ _ h => h) (by rfl) ?_ ?_
  rotate_left
  · intro W hW; have hW0 := Ext.trans E1dd.out hW; clear hW; go_simp <;> with_reducible rfl
  try simp only [Act.put, List.setIfInBounds_toArray, List.set_cons_zero, List.set_cons_succ]
  refine ext_take (i := 10) (v := ?_) rfl (by kernel_rfl) (by kernel_rfl) (by kernel_rfl) (fun _ _ _ h => h) (by rfl) ?_ ?_
  rotate_left
  · intro W hW; have hW0 := Ext.trans E1dd.out hW; clear hW; go_simp <;> with_reducible rfl
  try simp only [Act.put, List.setIfInBounds_toArray, List.set_cons_zero, List.set_cons_succ]
  refine wpAnyH_done (by kernel_rfl) ?_ _
  have EX := Lib.hid E1dd.out
  clear E1d E1dd
  try go_wp2_with fail
  try go_ret
  exact hD.out _ _ ⟨rfl, Ext.trans X0.out EX.out⟩

set_option maxRecDepth 8000 in
set_option maxHeartbeats 8000000 in
theorem rask_ok1 (base P : Nat) (G : Option Nat) (st : Ps) (s k i m : Int) (d : ByteArray) (w : World) (H : RAt w base P G st) (hd : d.size ≤ maxLen) (hm : mayReqB 1 s k i m d.size = true) (hs : st.w 1 = none) (ht : st.la 1 < s) (hn : st.acts.length ≤ 1000000) :
    Calls Try.prog 12 #[.pointer (some ⟨P, 0, none⟩), .agg #[.int .i64 1, .int .i64 s, .int .i64 k, .int .i64 i, .int .i64 m, .string d]] w fun e w' => e = .returned (.int .i64 0) ∧ ROut w w' base P G (askS st ⟨1, s, k, i, m, d⟩) := by
  refine hide_post fun D hD => ?_
  have hlt := H.lt
  obtain ⟨hbP, v, l0, l1, l2, l3, o0, o1, o2, o3, L, kP, hl, hw, hown, hG, hL, hin⟩ := H
  obtain ⟨w0, hw0⟩ : ∃ w0, w0 = w.alloc (.cells #[.int .i64 1, .int .i64 s, .int .i64 k, .int .i64 i, .int .i64 m, .string d] 29) := ⟨_, rfl⟩
  have hb0 : Ext w w0 := by rw [hw0]; exact Ext.alloc _ _
  have KQ : Hid (Blk w0 w.heap.size 29 #[.int .i64 1, .int .i64 s, .int .i64 k, .int .i64 i, .int .i64 m, .string d]) := by show Blk _ _ _ _; rw [hw0]; exact Blk.new _ _ _
  have CM : Hid (∀ V, Calls Try.prog 37 #[.agg #[.int .i64 1, .int .i64 s, .int .i64 k, .int .i64 i, .int .i64 m, .string d]] V fun e w' => e = .returned (.bool true) ∧ Ext V w') := fun V => by rw [← hm]; exact refMayReq_any 1 s k i m d V hd
  have X0 : Hid (Ext w w0) := hb0
  have HW := Lib.hid hw0
  have ho : o1 = none := by unfold Ps.w at hs; rw [hw] at hs; exact hs
  subst ho
  have hlc : l1 = st.la 1 := by unfold Ps.la; rw [hl]; rfl
  rw [← hlc] at ht
  have y0 : ∀ V, Ext w0 V → V.cell? ⟨P, 0, none⟩ = some (v) := fun V h => (((kP.stay hb0).stay h)).cell 0
  have y2 : ∀ V, Ext w0 V → V.cell? ⟨P, 2, none⟩ = some (.int .i64 l1) := fun V h => (((kP.stay hb0).stay h)).cell 2
  have y11 : ∀ V, Ext w0 V → V.cell? ⟨P, 11, none⟩ = some (.int .i64 0) := fun V h => (((kP.stay hb0).stay h)).cell 11
  have y12 : ∀ V, Ext w0 V → V.cell? ⟨P, 12, none⟩ = some (.int .i64 0) := fun V h => (((kP.stay hb0).stay h)).cell 12
  have y13 : ∀ V, Ext w0 V → V.cell? ⟨P, 13, none⟩ = some (.int .i64 0) := fun V h => (((kP.stay hb0).stay h)).cell 13
  have y14 : ∀ V, Ext w0 V → V.cell? ⟨P, 14, none⟩ = some (.int .i64 0) := fun V h => (((kP.stay hb0).stay h)).cell 14
  have y15 : ∀ V, Ext w0 V → V.cell? ⟨P, 15, none⟩ = some (.int .i64 0) := fun V h => (((kP.stay hb0).stay h)).cell 15
  have y16 : ∀ V, Ext w0 V → V.cell? ⟨P, 16, none⟩ = some (.string ⟨#[]⟩) := fun V h => (((kP.stay hb0).stay h)).cell 16
  have z0 : ∀ V, Ext w0 V → V.cell? ⟨w.heap.size, 0, none⟩ = some (.int .i64 1) := fun V h => ((KQ.out.stay h)).cell 0
  have z1 : ∀ V, Ext w0 V → V.cell? ⟨w.heap.size, 1, none⟩ = some (.int .i64 s) := fun V h => ((KQ.out.stay h)).cell 1
  have z2 : ∀ V, Ext w0 V → V.cell? ⟨w.heap.size, 2, none⟩ = some (.int .i64 k) := fun V h => ((KQ.out.stay h)).cell 2
  have z3 : ∀ V, Ext w0 V → V.cell? ⟨w.heap.size, 3, none⟩ = some (.int .i64 i) := fun V h => ((KQ.out.stay h)).cell 3
  have z4 : ∀ V, Ext w0 V → V.cell? ⟨w.heap.size, 4, none⟩ = some (.int .i64 m) := fun V h => ((KQ.out.stay h)).cell 4
  have z5 : ∀ V, Ext w0 V → V.cell? ⟨w.heap.size, 5, none⟩ = some (.string d) := fun V h => ((KQ.out.stay h)).cell 5
  have ht2 : ¬ s ≤ l1 := by omega
  have hLn : L.length ≤ 1000000000 := by have h5 := congrArg List.length hL; rw [List.length_map] at h5; omega
  have HLN : Hid (L.length ≤ 1000000000) := hLn
  have HKP := Lib.hid (kP.stay hb0)
  have HKPw := Lib.hid kP
  have HOWNw := Lib.hid hown
  have HOWN := Lib.hid hown
  have HG : Hid (v.ownBlock = G) := hG
  have HL := Lib.hid hL
  have HIN := Lib.hid hin
  have HBP : Hid (base ≤ P) := hbP
  have HBS : Hid (base ≤ w.heap.size) := Nat.le_trans hbP (Nat.le_of_lt hlt)
  have HLT : Hid (P < w.heap.size) := hlt
  have HLS := Lib.hid hl
  have HWS := Lib.hid hw
  have HNP : Hid (¬ some P = G) := fun e => by
    obtain ⟨cs, hc⟩ := own_blk hown (hG.trans e.symm)
    exact Blk.apart kP hc (by decide) rfl
  clear hb0 hw0 kP hl hw hown hG hL hin hm hd hs hlc hlt hbP hLn
  obtain ⟨g, hg⟩ : ∃ g, g = w.heap.size := ⟨_, rfl⟩
  have HGG := Lib.hid hg
  rw [← hg] at KQ z0 z1 z2 z3 z4 z5
  go_enter Try.func12, Try.ntmps12
  go_wp2_with (go_at_call 37; rw [← HW.out]; (with_reducible refine (CM.out _).mono ?_); rintro e w1 ⟨rfl, hx⟩; have E1 : Hid (Ext w0 w1) := hx; clear hx)
  rw [← HGG.out]
  clear hg
  refine ext_begin (by kernel_rfl) ?_
  have E1d := Lib.hid (Ext.drewR E1.out)
  refine ext_take (i := 0) (v := ?_) rfl (by kernel_rfl) (by kernel_rfl) (by kernel_rfl) (fun _ _ _ h => h) (by rfl) ?_ ?_
  rotate_left
  · intro W hW; have hW0 := Ext.trans E1d.out hW; clear hW; go_simp <;> with_reducible rfl
  try simp only [Act.put, List.setIfInBounds_toArray, List.set_cons_zero, List.set_cons_succ]
  refine ext_take (i := 1) (v := ?_) rfl (by kernel_rfl) (by kernel_rfl) (by kernel_rfl) (fun _ _ _ h => h) (by rfl) ?_ ?_
  rotate_left
  · intro W hW; have hW0 := Ext.trans E1d.out hW; clear hW; go_simp <;> with_reducible rfl
  try simp only [Act.put, List.setIfInBounds_toArray, List.set_cons_zero, List.set_cons_succ]
  refine ext_take (i := 2) (v := ?_) rfl (by kernel_rfl) (by kernel_rfl) (by kernel_rfl) (fun _ _ _ h => h) (by rfl) ?_ ?_
  rotate_left
  · intro W hW; have hW0 := Ext.trans E1d.out hW; clear hW; go_simp <;> with_reducible rfl
  try simp only [Act.put, List.setIfInBounds_toArray, List.set_cons_zero, List.set_cons_succ]
  refine ext_take (i := 3) (v := ?_) rfl (by kernel_rfl) (by kernel_rfl) (by kernel_rfl) (fun _ _ _ h => h) (by rfl) ?_ ?_
  rotate_left
  · intro W hW; have hW0 := Ext.trans E1d.out hW; clear hW; go_simp <;> with_reducible rfl
  try simp only [Act.put, List.setIfInBounds_toArray, List.set_cons_zero, List.set_cons_succ]
  refine ext_take (i := 4) (v := ?_) rfl (by kernel_rfl) (by kernel_rfl) (by kernel_rfl) (fun _ _ _ h => h) (by rfl) ?_ ?_
  rotate_left
  · intro W hW; have hW0 := Ext.trans E1d.out hW; clear hW; go_simp <;> with_reducible rfl
  try simp only [Act.put, List.setIfInBounds_toArray, List.set_cons_zero, List.set_cons_succ]
  refine ext_take (i := 5) (v := ?_) rfl (by kernel_rfl) (by kernel_rfl) (by kernel_rfl) (fun _ _ _ h => h) (by rfl) ?_ ?_
  rotate_left
  · intro W hW; have hW0 := Ext.trans E1d.out hW; clear hW; go_simp <;> with_reducible rfl
  try simp only [Act.put, List.setIfInBounds_toArray, List.set_cons_zero, List.set_cons_succ]
  refine ext_take (i := 6) (v := ?_) rfl (by kernel_rfl) (by kernel_rfl) (by kernel_rfl) (fun _ _ _ h => h) (by rfl) ?_ ?_
  rotate_left
  · intro W hW; have hW0 := Ext.trans E1d.out hW; clear hW; go_simp <;> with_reducible rfl
  try simp only [Act.put, List.setIfInBounds_toArray, List.set_cons_zero, List.set_cons_succ]
  refine ext_take (i := 7) (v := ?_) rfl (by kernel_rfl) (by kernel_rfl) (by kernel_rfl) (fun _ _ _ h => h) (by rfl) ?_ ?_
  rotate_left
  · intro W hW; have hW0 := Ext.trans E1d.out hW; clear hW; go_simp <;> with_reducible rfl
  try simp only [Act.put, List.setIfInBounds_toArray, List.set_cons_zero, List.set_cons_succ]
  refine ext_take (i := 8) (v := ?_) rfl (by kernel_rfl) (by kernel_rfl) (by kernel_rfl) (fun _ _ _ h => h) (by rfl) ?_ ?_
  rotate_left
  · intro W hW; have hW0 := Ext.trans E1d.out hW; clear hW; go_simp <;> with_reducible rfl
  try simp only [Act.put, List.setIfInBounds_toArray, List.set_cons_zero, List.set_cons_succ]
  refine ext_take (i := 9) (v := ?_) rfl (by kernel_rfl) (by kernel_rfl) (by kernel_rfl) (fun _ _ _ h => h) (by rfl) ?_ ?_
  rotate_left
  · intro W hW; have hW0 := Ext.trans E1d.out hW; clear hW; go_simp <;> with_reducible rfl
  try simp only [Act.put, List.setIfInBounds_toArray, List.set_cons_zero, List.set_cons_succ]
  refine wpAnyH_done (by kernel_rfl) ?_ _
  try go_wp2_with fail
  refine ext_begin (by kernel_rfl) ?_
  have E1dd := Lib.hid (Ext.drewR E1d.out)
  refine ext_take (i := 0) (v := ?_) rfl (by kernel_rfl) (by kernel_rfl) (by kernel_rfl) (fun _ _ _ h => h) (by rfl) ?_ ?_
  rotate_left
  · intro W hW; have hW0 := Ext.trans E1dd.out hW; clear hW; go_simp <;> with_reducible rfl
  try simp only [Act.put, List.setIfInBounds_toArray, List.set_cons_zero, List.set_cons_succ]
  refine ext_take (i := 1) (v := ?_) rfl (by kernel_rfl) (by kernel_rfl) (by kernel_rfl) (fun _ _ _ h => h) (by rfl) ?_ ?_
  rotate_left
  · intro W hW; have hW0 := Ext.trans E1dd.out hW; clear hW; go_simp <;> with_reducible rfl
  try simp only [Act.put, List.setIfInBounds_toArray, List.set_cons_zero, List.set_cons_succ]
  refine ext_take (i := 2) (v := ?_) rfl (by kernel_rfl) (by kernel_rfl) (by kernel_rfl) (fun _ _ _ h => h) (by rfl) ?_ ?_
  rotate_left
  · intro W hW; have hW0 := Ext.trans E1dd.out hW; clear hW; go_simp <;> with_reducible rfl
  try simp only [Act.put, List.setIfInBounds_toArray, List.set_cons_zero, List.set_cons_succ]
  refine ext_take (i := 3) (v := ?_) rfl (by kernel_rfl) (by kernel_rfl) (by kernel_rfl) (fun _ _ _ h => h) (by rfl) ?_ ?_
  rotate_left
  · intro W hW; have hW0 := Ext.trans E1dd.out hW; clear hW; go_simp <;> with_reducible rfl
  try simp only [Act.put, List.setIfInBounds_toArray, List.set_cons_zero, List.set_cons_succ]
  refine ext_take (i := 4) (v := ?_) rfl (by kernel_rfl) (by kernel_rfl) (by kernel_rfl) (fun _ _ _ h => h) (by rfl) ?_ ?_
  rotate_left
  · intro W hW; have hW0 := Ext.trans E1dd.out hW; clear hW; go_simp <;> with_reducible rfl
  try simp only [Act.put, List.setIfInBounds_toArray, List.set_cons_zero, List.set_cons_succ]
  refine ext_take (i := 5) (v := ?_) rfl (by kernel_rfl) (by kernel_rfl) (by kernel_rfl) (fun _ _ _ h => h) (by rfl) ?_ ?_
  rotate_left
  · intro W hW; have hW0 := Ext.trans E1dd.out hW; clear hW; go_simp <;> with_reducible rfl
  try simp only [Act.put, List.setIfInBounds_toArray, List.set_cons_zero, List.set_cons_succ]
  refine ext_take (i := 6) (v := ?_) rfl (by kernel_rfl) (by kernel_rfl) (by kernel_rfl) (fun _ _ _ h => h) (by rfl) ?_ ?_
  rotate_left
  · intro W hW; have hW0 := Ext.trans E1dd.out hW; clear hW; go_simp <;> with_reducible rfl
  try simp only [Act.put, List.setIfInBounds_toArray, List.set_cons_zero, List.set_cons_succ]
  refine ext_take (i := 7) (v := ?_) rfl (by kernel_rfl) (by kernel_rfl) (by kernel_rfl) (fun _ _ _ h => h) (by rfl) ?_ ?_
  rotate_left
  · intro W hW; have hW0 := Ext.trans E1dd.out hW; clear hW; go_simp <;> with_reducible rfl
  try simp only [Act.put, List.setIfInBounds_toArray, List.set_cons_zero, List.set_cons_succ]
  refine ext_take (i := 8) (v := ?_) rfl (by kernel_rfl) (by kernel_rfl) (by kernel_rfl) (fun _ _ _ h => h) (by rfl) ?_ ?_
  rotate_left
  · intro W hW; have hW0 := Ext.trans E1dd.out hW; clear hW; go_simp <;> with_reducible rfl
  try simp only [Act.put, List.setIfInBounds_toArray, List.set_cons_zero, List.set_cons_succ]
  refine ext_take (i := 9) (v := ?_) rfl (by kernel_rfl) (by kernel_rfl) (by kernel_rfl) (fun _ _ _ h => h) (by rfl) ?_ ?_
  rotate_left
  · intro W hW; have hW0 := Ext.trans E1dd.out hW; clear hW; go_simp <;> with_reducible rfl
  try simp only [Act.put, List.setIfInBounds_toArray, List.set_cons_zero, List.set_cons_succ]
  refine ext_take (i := 10) (v := ?_) rfl (by kernel_rfl) (by kernel_rfl) (by kernel_rfl) (fun _ _ _ h => h) (by rfl) ?_ ?_
  rotate_left
  · intro W hW; have hW0 := Ext.trans E1dd.out hW; clear hW; go_simp <;> with_reducible rfl
  try simp only [Act.put, List.setIfInBounds_toArray, List.set_cons_zero, List.set_cons_succ]
  refine wpAnyH_done (by kernel_rfl) ?_ _
  try go_wp2_with fail
  obtain ⟨Wa, hWa⟩ : ∃ Wa, Wa = w1.drew.drew := ⟨_, rfl⟩
  have Ew2 : Hid (Ext w0 Wa) := by (show Ext _ _); rw [hWa]; exact E1dd.out
  rw [← hWa]
  clear hWa
  have HKQa := Lib.hid (KQ.out.stay Ew2.out)
  have KPa := Lib.hid (HKP.out.stay Ew2.out)
  have hgne : ¬ g = P := by have h1 := HGG.out; have h2 := HLT.out; omega
  have KP : Hid (Blk Wa.drew P 32 #[v, .int .i64 l0, .int .i64 l1, .int .i64 l2, .int .i64 l3, .int .i64 (wq o0).c, .int .i64 (wq o0).s, .int .i64 (wq o0).k, .int .i64 (wq o0).i, .int .i64 (wq o0).m, .string (wq o0).d, .int .i64 0, .int .i64 0, .int .i64 0, .int .i64 0, .int .i64 0, .string ⟨#[]⟩, .int .i64 (wq o2).c, .int .i64 (wq o2).s, .int .i64 (wq o2).k, .int .i64 (wq o2).i, .int .i64 (wq o2).m, .string (wq o2).d, .int .i64 (wq o3).c, .int .i64 (wq o3).s, .int .i64 (wq o3).k, .int .i64 (wq o3).i, .int .i64 (wq o3).m, .string (wq o3).d]) := KPa.out.drew
  have E0f : Hid (Frm (fun k => k = P) Wa Wa.drew) := (Frm.refl _ _).drew
  have EaX : Hid (Ext w Wa) := Ext.trans X0.out Ew2.out
  clear y0 y2 y11 y12 y13 y14 y15 y16 z0 z1 z2 z3 z4 z5 E1d E1dd
  have z0 : ∀ V, Frm (fun k => k = P) Wa V → V.cell? ⟨g, 0, none⟩ = some (.int .i64 1) := fun V h => ((HKQa.out.frm h hgne)).cell 0
  have z1 : ∀ V, Frm (fun k => k = P) Wa V → V.cell? ⟨g, 1, none⟩ = some (.int .i64 s) := fun V h => ((HKQa.out.frm h hgne)).cell 1
  have z2 : ∀ V, Frm (fun k => k = P) Wa V → V.cell? ⟨g, 2, none⟩ = some (.int .i64 k) := fun V h => ((HKQa.out.frm h hgne)).cell 2
  have z3 : ∀ V, Frm (fun k => k = P) Wa V → V.cell? ⟨g, 3, none⟩ = some (.int .i64 i) := fun V h => ((HKQa.out.frm h hgne)).cell 3
  have z4 : ∀ V, Frm (fun k => k = P) Wa V → V.cell? ⟨g, 4, none⟩ = some (.int .i64 m) := fun V h => ((HKQa.out.frm h hgne)).cell 4
  have z5 : ∀ V, Frm (fun k => k = P) Wa V → V.cell? ⟨g, 5, none⟩ = some (.string d) := fun V h => ((HKQa.out.frm h hgne)).cell 5
  refine rz_begin (fun k => k = P) [] (by kernel_rfl) ?_
  refine rz_take [9, 10, 11, 12, 15, 16] (i := 0) (v := ?_) rfl (by kernel_rfl) (by kernel_rfl) (by kernel_rfl) (by kernel_rfl) (by kernel_rfl) (by kernel_rfl) (fun _ _ _ h => h) (by rfl) ?_ ?_
  rotate_left
  · intro W hW; have hW0 := Frm.tr E0f.out hW; clear hW; go_simp <;> with_reducible rfl
  try simp only [Act.put, List.setIfInBounds_toArray, List.set_cons_zero, List.set_cons_succ]
  refine rz_take [2, 11, 12, 15, 16] (i := 1) (v := ?_) rfl (by kernel_rfl) (by kernel_rfl) (by kernel_rfl) (by kernel_rfl) (by kernel_rfl) (by kernel_rfl) (fun _ _ _ h => h) (by rfl) ?_ ?_
  rotate_left
  · intro W hW; have hW0 := Frm.tr E0f.out hW; clear hW; go_simp <;> with_reducible rfl
  try simp only [Act.put, List.setIfInBounds_toArray, List.set_cons_zero, List.set_cons_succ]
  refine rz_take [11, 12, 15, 16] (i := 2) (v := ?_) rfl (by kernel_rfl) (by kernel_rfl) (by kernel_rfl) (by kernel_rfl) (by kernel_rfl) (by kernel_rfl) (fun _ _ _ h => h) (by rfl) ?_ ?_
  rotate_left
  · intro W hW; have hW0 := Frm.tr E0f.out hW; clear hW; go_simp <;> with_reducible rfl
  try simp only [Act.put, List.setIfInBounds_toArray, List.set_cons_zero, List.set_cons_succ]
  refine rz_take [13, 14, 15, 16] (i := 3) (v := ?_) rfl (by kernel_rfl) (by kernel_rfl) (by kernel_rfl) (by kernel_rfl) (by kernel_rfl) (by kernel_rfl) (fun _ _ _ h => h) (by rfl) ?_ ?_
  rotate_left
  · intro W hW; have hW0 := Frm.tr E0f.out hW; clear hW; go_simp <;> with_reducible rfl
  try simp only [Act.put, List.setIfInBounds_toArray, List.set_cons_zero, List.set_cons_succ]
  refine rz_take [5, 15, 16] (i := 4) (v := ?_) rfl (by kernel_rfl) (by kernel_rfl) (by kernel_rfl) (by kernel_rfl) (by kernel_rfl) (by kernel_rfl) (fun _ _ _ h => h) (by rfl) ?_ ?_
  rotate_left
  · intro W hW; have hW0 := Frm.tr E0f.out hW; clear hW; go_simp <;> with_reducible rfl
  try simp only [Act.put, List.setIfInBounds_toArray, List.set_cons_zero, List.set_cons_succ]
  refine rz_take [15, 16] (i := 5) (v := ?_) rfl (by kernel_rfl) (by kernel_rfl) (by kernel_rfl) (by kernel_rfl) (by kernel_rfl) (by kernel_rfl) (fun _ _ _ h => h) (by rfl) ?_ ?_
  rotate_left
  · intro W hW; have hW0 := Frm.tr E0f.out hW; clear hW; go_simp <;> with_reducible rfl
  try simp only [Act.put, List.setIfInBounds_toArray, List.set_cons_zero, List.set_cons_succ]
  refine rz_take [7, 11, 12, 15, 16] (i := 6) (v := ?_) rfl (by kernel_rfl) (by kernel_rfl) (by kernel_rfl) (by kernel_rfl) (by kernel_rfl) (by kernel_rfl) (fun _ _ _ h => h) (by rfl) ?_ ?_
  rotate_left
  · intro W hW; have hW0 := Frm.tr E0f.out hW; clear hW; go_simp <;> with_reducible rfl
  try simp only [Act.put, List.setIfInBounds_toArray, List.set_cons_zero, List.set_cons_succ]
  refine rz_take [11, 12, 15, 16] (i := 7) (v := ?_) rfl (by kernel_rfl) (by kernel_rfl) (by kernel_rfl) (by kernel_rfl) (by kernel_rfl) (by kernel_rfl) (fun _ _ _ h => h) (by rfl) ?_ ?_
  rotate_left
  · intro W hW; have hW0 := Frm.tr E0f.out hW; clear hW; go_simp <;> with_reducible rfl
  try simp only [Act.put, List.setIfInBounds_toArray, List.set_cons_zero, List.set_cons_succ]
  refine rz_take [15, 16] (i := 8) (v := ?_) rfl (by kernel_rfl) (by kernel_rfl) (by kernel_rfl) (by kernel_rfl) (by kernel_rfl) (by kernel_rfl) (fun _ _ _ h => h) (by rfl) ?_ ?_
  rotate_left
  · intro W hW; have hW0 := Frm.tr E0f.out hW; clear hW; go_simp <;> with_reducible rfl
  try simp only [Act.put, List.setIfInBounds_toArray, List.set_cons_zero, List.set_cons_succ]
  refine rz_take [10, 11, 12, 15, 16] (i := 9) (v := ?_) rfl (by kernel_rfl) (by kernel_rfl) (by kernel_rfl) (by kernel_rfl) (by kernel_rfl) (by kernel_rfl) (fun _ _ _ h => h) (by rfl) ?_ ?_
  rotate_left
  · intro W hW; have hW0 := Frm.tr E0f.out hW; clear hW; go_simp <;> with_reducible rfl
  try simp only [Act.put, List.setIfInBounds_toArray, List.set_cons_zero, List.set_cons_succ]
  refine rz_take [11, 12, 15, 16] (i := 10) (v := ?_) rfl (by kernel_rfl) (by kernel_rfl) (by kernel_rfl) (by kernel_rfl) (by kernel_rfl) (by kernel_rfl) (fun _ _ _ h => h) (by rfl) ?_ ?_
  rotate_left
  · intro W hW; have hW0 := Frm.tr E0f.out hW; clear hW; go_simp <;> with_reducible rfl
  try simp only [Act.put, List.setIfInBounds_toArray, List.set_cons_zero, List.set_cons_succ]
  refine rz_take [12, 15, 16] (i := 11) (v := ?_) rfl (by kernel_rfl) (by kernel_rfl) (by kernel_rfl) (by kernel_rfl) (by kernel_rfl) (by kernel_rfl) (fun _ _ _ h => h) (by rfl) ?_ ?_
  rotate_left
  · intro W hW; have hW0 := Frm.tr E0f.out hW; clear hW; go_simp <;> with_reducible rfl
  try simp only [Act.put, List.setIfInBounds_toArray, List.set_cons_zero, List.set_cons_succ]
  refine rz_take [14, 15, 16] (i := 13) (v := ?_) rfl (by kernel_rfl) (by kernel_rfl) (by kernel_rfl) (by kernel_rfl) (by kernel_rfl) (by kernel_rfl) (fun _ _ _ h => h) (by rfl) ?_ ?_
  rotate_left
  · intro W hW; have hW0 := Frm.tr E0f.out hW; clear hW; go_simp <;> with_reducible rfl
  try simp only [Act.put, List.setIfInBounds_toArray, List.set_cons_zero, List.set_cons_succ]
  refine rz_take [15, 16] (i := 14) (v := ?_) rfl (by kernel_rfl) (by kernel_rfl) (by kernel_rfl) (by kernel_rfl) (by kernel_rfl) (by kernel_rfl) (fun _ _ _ h => h) (by rfl) ?_ ?_
  rotate_left
  · intro W hW; have hW0 := Frm.tr E0f.out hW; clear hW; go_simp <;> with_reducible rfl
  try simp only [Act.put, List.setIfInBounds_toArray, List.set_cons_zero, List.set_cons_succ]
  refine rz_call (i := 12) rfl (by kernel_rfl) (by rfl) (fun K hK => ?_)
  have q1 := KP.out.frozen 2
  have r1 := KP.out.cell 2
  simp at r1
  go_simp
  refine hK _ _ (Frm.of_set _ _ _ rfl) ?_; clear hK K q1 r1
  obtain ⟨W1, hW1⟩ : ∃ W1, W1 = (Wa.setCell ⟨P, 2, none⟩ (.int .i64 s)).drew := ⟨_, rfl⟩
  have KP1 : Hid (Blk W1 P 32 #[v, .int .i64 l0, .int .i64 s, .int .i64 l2, .int .i64 l3, .int .i64 (wq o0).c, .int .i64 (wq o0).s, .int .i64 (wq o0).k, .int .i64 (wq o0).i, .int .i64 (wq o0).m, .string (wq o0).d, .int .i64 0, .int .i64 0, .int .i64 0, .int .i64 0, .int .i64 0, .string ⟨#[]⟩, .int .i64 (wq o2).c, .int .i64 (wq o2).s, .int .i64 (wq o2).k, .int .i64 (wq o2).i, .int .i64 (wq o2).m, .string (wq o2).d, .int .i64 (wq o3).c, .int .i64 (wq o3).s, .int .i64 (wq o3).k, .int .i64 (wq o3).i, .int .i64 (wq o3).m, .string (wq o3).d]) := by (show Blk _ _ _ _); rw [hW1]; exact KP.out.set 2 _
  have F1 : Hid (Frm (fun k => k = P) Wa.drew W1) := by (show Frm _ _ _); rw [hW1]; exact Frm.of_set (s := fun k => k = P) Wa.drew ⟨P, 2, none⟩ _ rfl
  have E8 : Hid (Frm (fun k => k = P) Wa W1) := Frm.tr E0f.out F1.out
  try rw [← hW1]
  clear hW1
  try simp only [Act.put, List.setIfInBounds_toArray, List.set_cons_zero, List.set_cons_succ]
  refine rz_take [16] (i := 15) (v := ?_) rfl (by kernel_rfl) (by kernel_rfl) (by kernel_rfl) (by kernel_rfl) (by kernel_rfl) (by kernel_rfl) (fun _ _ _ h => h) (by rfl) ?_ ?_
  rotate_left
  · intro W hW; have hW0 := Frm.tr E8.out hW; clear hW; go_simp <;> with_reducible rfl
  try simp only [Act.put, List.setIfInBounds_toArray, List.set_cons_zero, List.set_cons_succ]
  refine rz_call (i := 16) rfl (by kernel_rfl) (by rfl) (fun K hK => ?_)
  have q11 := KP1.out.frozen 11
  have r11 := KP1.out.cell 11
  have q12 := KP1.out.frozen 12
  have r12 := KP1.out.cell 12
  have q13 := KP1.out.frozen 13
  have r13 := KP1.out.cell 13
  have q14 := KP1.out.frozen 14
  have r14 := KP1.out.cell 14
  have q15 := KP1.out.frozen 15
  have r15 := KP1.out.cell 15
  have q16 := KP1.out.frozen 16
  have r16 := KP1.out.cell 16
  simp at r11 r12 r13 r14 r15 r16
  go_simp
  refine hK _ _ (Frm.tr (Frm.tr (Frm.tr (Frm.tr (Frm.tr (Frm.tr (Frm.refl (fun k => k = P) W1) (Frm.of_set _ _ _ rfl)) (Frm.of_set _ _ _ rfl)) (Frm.of_set _ _ _ rfl)) (Frm.of_set _ _ _ rfl)) (Frm.of_set _ _ _ rfl)) (Frm.of_set _ _ _ rfl)) ?_; clear hK K q11 r11 q12 r12 q13 r13 q14 r14 q15 r15 q16 r16
  obtain ⟨W2, hW2⟩ : ∃ W2, W2 = ((((((W1.setCell ⟨P, 11, none⟩ (.int .i64 1)).setCell ⟨P, 12, none⟩ (.int .i64 s)).setCell ⟨P, 13, none⟩ (.int .i64 k)).setCell ⟨P, 14, none⟩ (.int .i64 i)).setCell ⟨P, 15, none⟩ (.int .i64 m)).setCell ⟨P, 16, none⟩ (.string d)) := ⟨_, rfl⟩
  have KP2 : Hid (Blk W2 P 32 #[v, .int .i64 l0, .int .i64 s, .int .i64 l2, .int .i64 l3, .int .i64 (wq o0).c, .int .i64 (wq o0).s, .int .i64 (wq o0).k, .int .i64 (wq o0).i, .int .i64 (wq o0).m, .string (wq o0).d, .int .i64 1, .int .i64 s, .int .i64 k, .int .i64 i, .int .i64 m, .string d, .int .i64 (wq o2).c, .int .i64 (wq o2).s, .int .i64 (wq o2).k, .int .i64 (wq o2).i, .int .i64 (wq o2).m, .string (wq o2).d, .int .i64 (wq o3).c, .int .i64 (wq o3).s, .int .i64 (wq o3).k, .int .i64 (wq o3).i, .int .i64 (wq o3).m, .string (wq o3).d]) := by (show Blk _ _ _ _); rw [hW2]; exact ((((((KP1.out.set 11 (.int .i64 1)).set 12 (.int .i64 s)).set 13 (.int .i64 k)).set 14 (.int .i64 i)).set 15 (.int .i64 m)).set 16 (.string d))
  have F2 : Hid (Frm (fun k => k = P) Wa.drew W2) := by (show Frm _ _ _); rw [hW2]; exact Frm.tr (Frm.tr (Frm.tr (Frm.tr (Frm.tr (Frm.tr (F1.out) (Frm.of_set _ _ _ rfl)) (Frm.of_set _ _ _ rfl)) (Frm.of_set _ _ _ rfl)) (Frm.of_set _ _ _ rfl)) (Frm.of_set _ _ _ rfl)) (Frm.of_set _ _ _ rfl)
  have E9 : Hid (Frm (fun k => k = P) Wa W2) := Frm.tr E0f.out F2.out
  try rw [← hW2]
  clear hW2
  try simp only [Act.put, List.setIfInBounds_toArray, List.set_cons_zero, List.set_cons_succ]
  refine rz_done (by kernel_rfl) ?_ _
  try go_wp2_with fail
  have EP2 : Hid (Frm (fun k => k = P) w W2) := Frm.tr (Frm.of_below EaX.out _) E9.out
  have HKQ2 := Lib.hid (HKQa.out.frm E9.out hgne)
  have HOWN2 := Lib.hid (own_frmN HOWN.out EP2.out (fun k hk e => HNP.out (by rw [← e, ← hk]; exact HG.out)))
  clear z0 z1 z2 z3 z4 z5
  have hgG : ¬ some g = G := fun e => by
    obtain ⟨cs, hc⟩ := own_blk HOWN2.out (HG.out.trans e.symm)
    exact Blk.apart HKQ2.out hc (by decide) rfl
  have z0 : ∀ V, Frm (fun k => some k = G) W2 V → V.cell? ⟨g, 0, none⟩ = some (.int .i64 1) := fun V h => ((HKQ2.out.frm h hgG)).cell 0
  have z1 : ∀ V, Frm (fun k => some k = G) W2 V → V.cell? ⟨g, 1, none⟩ = some (.int .i64 s) := fun V h => ((HKQ2.out.frm h hgG)).cell 1
  have z2 : ∀ V, Frm (fun k => some k = G) W2 V → V.cell? ⟨g, 2, none⟩ = some (.int .i64 k) := fun V h => ((HKQ2.out.frm h hgG)).cell 2
  have z3 : ∀ V, Frm (fun k => some k = G) W2 V → V.cell? ⟨g, 3, none⟩ = some (.int .i64 i) := fun V h => ((HKQ2.out.frm h hgG)).cell 3
  have z4 : ∀ V, Frm (fun k => some k = G) W2 V → V.cell? ⟨g, 4, none⟩ = some (.int .i64 m) := fun V h => ((HKQ2.out.frm h hgG)).cell 4
  have z5 : ∀ V, Frm (fun k => some k = G) W2 V → V.cell? ⟨g, 5, none⟩ = some (.string d) := fun V h => ((HKQ2.out.frm h hgG)).cell 5
  have y0 : ∀ V, Frm (fun k => some k = G) W2 V → V.cell? ⟨P, 0, none⟩ = some (v) := fun V h => (KP2.out.frm h HNP.out).cell 0
  have Xe : Hid (Ext W2 W2.drew) := (Ext.refl _).drewR
  have E0g : Hid (Frm (fun k => some k = G) W2 W2.drew) := Frm.of_below Xe.out _
  refine rz_begin (fun k => some k = G) [15] (by kernel_rfl) ?_
  refine rz_take [13, 14, 15] (i := 0) (v := ?_) rfl (by kernel_rfl) (by kernel_rfl) (by kernel_rfl) (by kernel_rfl) (by kernel_rfl) (by kernel_rfl) (fun _ _ _ h => h) (by rfl) ?_ ?_
  rotate_left
  · intro W hW; have hW0 := Frm.tr E0g.out hW; clear hW; go_simp <;> with_reducible rfl
  try simp only [Act.put, List.setIfInBounds_toArray, List.set_cons_zero, List.set_cons_succ]
  refine rz_take [2, 3, 4, 12, 13, 14, 15] (i := 1) (v := ?_) rfl (by kernel_rfl) (by kernel_rfl) (by kernel_rfl) (by kernel_rfl) (by kernel_rfl) (by kernel_rfl) (fun _ _ _ h => h) (by rfl) ?_ ?_
  rotate_left
  · intro W hW; have hW0 := Frm.tr E0g.out hW; clear hW; go_simp <;> with_reducible rfl
  try simp only [Act.put, List.setIfInBounds_toArray, List.set_cons_zero, List.set_cons_succ]
  refine rz_take [3, 4, 12, 13, 14, 15] (i := 2) (v := ?_) rfl (by kernel_rfl) (by kernel_rfl) (by kernel_rfl) (by kernel_rfl) (by kernel_rfl) (by kernel_rfl) (fun _ _ _ h => h) (by rfl) ?_ ?_
  rotate_left
  · intro W hW; have hW0 := Frm.tr E0g.out hW; clear hW; go_simp <;> with_reducible rfl
  try simp only [Act.put, List.setIfInBounds_toArray, List.set_cons_zero, List.set_cons_succ]
  refine rz_take [4, 12, 13, 14, 15] (i := 3) (v := ?_) rfl (by kernel_rfl) (by kernel_rfl) (by kernel_rfl) (by kernel_rfl) (by kernel_rfl) (by kernel_rfl) (fun _ _ _ h => h) (by rfl) ?_ ?_
  rotate_left
  · intro W hW; have hW0 := Frm.tr E0g.out hW; clear hW; go_simp <;> with_reducible rfl
  try simp only [Act.put, List.setIfInBounds_toArray, List.set_cons_zero, List.set_cons_succ]
  refine rz_take [12, 13, 14, 15] (i := 4) (v := ?_) rfl (by kernel_rfl) (by kernel_rfl) (by kernel_rfl) (by kernel_rfl) (by kernel_rfl) (by kernel_rfl) (fun _ _ _ h => h) (by rfl) ?_ ?_
  rotate_left
  · intro W hW; have hW0 := Frm.tr E0g.out hW; clear hW; go_simp <;> with_reducible rfl
  try simp only [Act.put, List.setIfInBounds_toArray, List.set_cons_zero, List.set_cons_succ]
  refine rz_take [6, 10, 11, 12, 13, 14, 15] (i := 5) (v := ?_) rfl (by kernel_rfl) (by kernel_rfl) (by kernel_rfl) (by kernel_rfl) (by kernel_rfl) (by kernel_rfl) (fun _ _ _ h => h) (by rfl) ?_ ?_
  rotate_left
  · intro W hW; have hW0 := Frm.tr E0g.out hW; clear hW; go_simp <;> with_reducible rfl
  try simp only [Act.put, List.setIfInBounds_toArray, List.set_cons_zero, List.set_cons_succ]
  refine rz_take [10, 11, 12, 13, 14, 15] (i := 6) (v := ?_) rfl (by kernel_rfl) (by kernel_rfl) (by kernel_rfl) (by kernel_rfl) (by kernel_rfl) (by kernel_rfl) (fun _ _ _ h => h) (by rfl) ?_ ?_
  rotate_left
  · intro W hW; have hW0 := Frm.tr E0g.out hW; clear hW; go_simp <;> with_reducible rfl
  try simp only [Act.put, List.setIfInBounds_toArray, List.set_cons_zero, List.set_cons_succ]
  refine rz_take [8, 10, 11, 12, 13, 14, 15] (i := 7) (v := ?_) rfl (by kernel_rfl) (by kernel_rfl) (by kernel_rfl) (by kernel_rfl) (by kernel_rfl) (by kernel_rfl) (fun _ _ _ h => h) (by rfl) ?_ ?_
  rotate_left
  · intro W hW; have hW0 := Frm.tr E0g.out hW; clear hW; go_simp <;> with_reducible rfl
  try simp only [Act.put, List.setIfInBounds_toArray, List.set_cons_zero, List.set_cons_succ]
  refine rz_take [10, 11, 12, 13, 14, 15] (i := 8) (v := ?_) rfl (by kernel_rfl) (by kernel_rfl) (by kernel_rfl) (by kernel_rfl) (by kernel_rfl) (by kernel_rfl) (fun _ _ _ h => h) (by rfl) ?_ ?_
  rotate_left
  · intro W hW; have hW0 := Frm.tr E0g.out hW; clear hW; go_simp <;> with_reducible rfl
  try simp only [Act.put, List.setIfInBounds_toArray, List.set_cons_zero, List.set_cons_succ]
  refine rz_take [10, 11, 12, 13, 14, 15] (i := 9) (v := ?_) rfl (by kernel_rfl) (by kernel_rfl) (by kernel_rfl) (by kernel_rfl) (by kernel_rfl) (by kernel_rfl) (fun _ _ _ h => h) (by rfl) ?_ ?_
  rotate_left
  · intro W hW; have hW0 := Frm.tr E0g.out hW; clear hW; go_simp <;> with_reducible rfl
  try simp only [Act.put, List.setIfInBounds_toArray, List.set_cons_zero, List.set_cons_succ]
  refine rz_take [11, 12, 13, 14, 15] (i := 10) (v := ?_) rfl (by kernel_rfl) (by kernel_rfl) (by kernel_rfl) (by kernel_rfl) (by kernel_rfl) (by kernel_rfl) (fun _ _ _ h => h) (by rfl) ?_ ?_
  rotate_left
  · intro W hW; have hW0 := Frm.tr E0g.out hW; clear hW; go_simp <;> with_reducible rfl
  try simp only [Act.put, List.setIfInBounds_toArray, List.set_cons_zero, List.set_cons_succ]
  refine rz_call (i := 11) rfl (by kernel_rfl) (by rfl) (fun K hK => ?_)
  go_simp
  refine hK _ _ (Frm.of_alloc _ _ _) ?_; clear hK K
  obtain ⟨W3, hW3⟩ : ∃ W3, W3 = (W2.alloc (.cells #[.int .i64 1, .int .i64 s, .bool false, .int .i64 1, .int .i64 s, .int .i64 k, .int .i64 i, .int .i64 m, .string d, .int .i64 0, .int .i64 0, .string ⟨#[]⟩, .slice none 0 0, .int .i64 0] 50)).drew := ⟨_, rfl⟩
  have KR3 : Hid (Blk W3 W2.drew.heap.size 50 #[.int .i64 1, .int .i64 s, .bool false, .int .i64 1, .int .i64 s, .int .i64 k, .int .i64 i, .int .i64 m, .string d, .int .i64 0, .int .i64 0, .string ⟨#[]⟩, .slice none 0 0, .int .i64 0]) := by (show Blk _ _ _ _); rw [hW3]; exact Blk.new W2.drew _ _
  have X3 : Hid (Ext W2.drew W3) := by (show Ext _ _); rw [hW3]; exact Ext.alloc W2.drew _
  have E3 : Hid (Frm (fun k => some k = G) W2 W3) := Frm.tr E0g.out (Frm.of_below X3.out _)
  try rw [← hW3]
  clear hW3
  try simp only [Act.put, List.setIfInBounds_toArray, List.set_cons_zero, List.set_cons_succ]
  refine rz_call (i := 12) rfl (by kernel_rfl) (by rfl) (fun K hK => ?_)
  refine wp_append_wide (.tmp 49) (.tmp 56) 26 rfl base 50 _ 14 144 Try.underlying26 info_act rfl (by decide) (by decide) v L.length (flatA L) rfl (own_frmN HOWN2.out (Frm.of_below (Ext.trans Xe.out X3.out) (fun _ => False)) (fun _ _ h => h)) W2.drew.heap.size [.int .i64 1, .int .i64 s, .bool false, .int .i64 1, .int .i64 s, .int .i64 k, .int .i64 i, .int .i64 m, .string d, .int .i64 0, .int .i64 0, .string ⟨#[]⟩, .slice none 0 0, .int .i64 0] rfl rfl KR3.out (by intro y hy; simp at hy; rcases hy with rfl | rfl | rfl | rfl | rfl | rfl | rfl | rfl | rfl | rfl | rfl | rfl | rfl | rfl <;> rfl) HLN.out (Nat.le_trans HBS.out (Nat.le_trans (Frm.tr EP2.out (Frm.of_below Xe.out _)).size X3.out.size)) ?_
  intro v2 W4 oo gg bb
  obtain ⟨A2, cap2, hv2⟩ := own_shape oo
  subst hv2
  refine hK _ _ (Frm.of_grown gg (fun k hk => hk.trans HG.out)) ?_; clear hK K
  have O4 := Lib.hid oo
  have BB4 := Lib.hid bb
  have E4 : Hid (Frm (fun k => some k = G) W2 W4) := Frm.tr E3.out (Frm.of_grown gg (fun k hk => hk.trans HG.out))
  clear oo gg bb
  have KP4 : Hid (Blk W4 P 32 #[v, .int .i64 l0, .int .i64 s, .int .i64 l2, .int .i64 l3, .int .i64 (wq o0).c, .int .i64 (wq o0).s, .int .i64 (wq o0).k, .int .i64 (wq o0).i, .int .i64 (wq o0).m, .string (wq o0).d, .int .i64 1, .int .i64 s, .int .i64 k, .int .i64 i, .int .i64 m, .string d, .int .i64 (wq o2).c, .int .i64 (wq o2).s, .int .i64 (wq o2).k, .int .i64 (wq o2).i, .int .i64 (wq o2).m, .string (wq o2).d, .int .i64 (wq o3).c, .int .i64 (wq o3).s, .int .i64 (wq o3).k, .int .i64 (wq o3).i, .int .i64 (wq o3).m, .string (wq o3).d]) := KP2.out.frm E4.out (fun e => HNP.out e)
  try simp only [Act.put, List.setIfInBounds_toArray, List.set_cons_zero, List.set_cons_succ]
  refine rz_take [14, 15] (i := 13) (v := ?_) rfl (by kernel_rfl) (by kernel_rfl) (by kernel_rfl) (by kernel_rfl) (by kernel_rfl) (by kernel_rfl) (fun _ _ _ h => h) (by rfl) ?_ ?_
  rotate_left
  · intro W hW; have hW0 := Frm.tr E4.out hW; clear hW; go_simp <;> with_reducible rfl
  try simp only [Act.put, List.setIfInBounds_toArray, List.set_cons_zero, List.set_cons_succ]
  refine rz_take [15] (i := 14) (v := ?_) rfl (by kernel_rfl) (by kernel_rfl) (by kernel_rfl) (by kernel_rfl) (by kernel_rfl) (by kernel_rfl) (fun _ _ _ h => h) (by rfl) ?_ ?_
  rotate_left
  · intro W hW; have hW0 := Frm.tr E4.out hW; clear hW; go_simp <;> with_reducible rfl
  try simp only [Act.put, List.setIfInBounds_toArray, List.set_cons_zero, List.set_cons_succ]
  refine rz_last (i := 15) rfl (by kernel_rfl) (by rfl) (by rfl) (fun K hK => ?_)
  have q1 := KP4.out.frozen 0
  have r1 := KP4.out.cell 0
  simp at r1
  go_simp
  refine hK _ _ ?_; clear hK K q1 r1
  obtain ⟨W5, hW5⟩ : ∃ W5, W5 = W4.setCell ⟨P, 0, none⟩ (.slice A2 (L.length + 1) cap2) := ⟨_, rfl⟩
  have KP5 : Hid (Blk W5 P 32 #[.slice A2 (L.length + 1) cap2, .int .i64 l0, .int .i64 s, .int .i64 l2, .int .i64 l3, .int .i64 (wq o0).c, .int .i64 (wq o0).s, .int .i64 (wq o0).k, .int .i64 (wq o0).i, .int .i64 (wq o0).m, .string (wq o0).d, .int .i64 1, .int .i64 s, .int .i64 k, .int .i64 i, .int .i64 m, .string d, .int .i64 (wq o2).c, .int .i64 (wq o2).s, .int .i64 (wq o2).k, .int .i64 (wq o2).i, .int .i64 (wq o2).m, .string (wq o2).d, .int .i64 (wq o3).c, .int .i64 (wq o3).s, .int .i64 (wq o3).k, .int .i64 (wq o3).i, .int .i64 (wq o3).m, .string (wq o3).d]) := by (show Blk _ _ _ _); rw [hW5]; exact KP4.out.set 0 _
  have F5 : Hid (Frm (fun k => k = P) W4 W5) := by (show Frm _ _ _); rw [hW5]; exact Frm.of_set _ _ _ rfl
  try rw [← hW5]
  clear hW5
  try simp only [Act.put, List.setIfInBounds_toArray, List.set_cons_zero, List.set_cons_succ]
  refine rz_done (by kernel_rfl) ?_ _
  clear z0 z1 z2 z3 z4 z5 y0
  go_wp2_with fail
  try go_ret
  have hqq : ∀ k cs, Blk w k 3 cs → ¬ k = P := fun k cs h e => by
    subst e
    exact Blk.apart HKPw.out h (by decide) rfl
  have hqg : ∀ k cs, Blk w k 3 cs → ¬ some k = G := fun k cs h e => by
    obtain ⟨cs', hc⟩ := own_blk HOWNw.out (HG.out.trans e.symm)
    exact Blk.apart hc h (by decide) rfl
  have FA : Frm (Psel P G) w W5 := Frm.tr (EP2.out.mono (fun k hk => Or.inl hk)) (Frm.tr (E4.out.mono (fun k hk => Or.inr hk)) (F5.out.mono (fun k hk => Or.inl hk)))
  have hkeep : ∀ k cs, Blk w k 3 cs → Blk W5 k 3 cs := fun k cs h => h.frm FA (fun hh => by
    rcases hh with hh | hh
    · exact hqq k cs h hh
    · exact hqg k cs h hh)
  have O5 : W5.ownsRow base 50 14 (.slice A2 (L.length + 1) cap2) (L ++ [At.mk (Ac.mk 1 s false (Rqv.mk 1 s k i m d) Rpv.zero 0) none 0]).length (flatA (L ++ [At.mk (Ac.mk 1 s false (Rqv.mk 1 s k i m d) Rpv.zero 0) none 0])) := by
    rw [flatA_append, List.length_append]
    exact own_frmN O4.out F5.out (fun k hk e => own_blkne O4.out KP4.out (by decide) k hk e)
  refine hD.out _ _ ⟨rfl, _, ⟨HBP.out, .slice A2 (L.length + 1) cap2, l0, s, l2, l3, o0, some ⟨1, s, k, i, m, d⟩, o2, o3, L ++ [At.mk (Ac.mk 1 s false (Rqv.mk 1 s k i m d) Rpv.zero 0) none 0], KP5.out, ?_, ?_, O5, rfl, ?_, ?_⟩, FA, ?_⟩
  · show st.last.set 1 s = _
    rw [HLS.out]; rfl
  · show st.wait.set 1 (some ⟨1, s, k, i, m, d⟩) = _
    rw [HWS.out]; rfl
  · rw [List.map_append, HL.out]; rfl
  · intro t ht
    rw [List.mem_append, List.mem_singleton] at ht
    rcases ht with ht | rfl
    · exact (HIN.out t ht).of (fun k cs h => hkeep k cs h)
    · exact In.nil _
  · rcases BB4.out with h5 | h5
    · exact .inl (h5.trans HG.out)
    · exact .inr ⟨_, h5, Nat.le_trans EaX.out.size (Nat.le_trans E0f.out.size (Nat.le_trans F2.out.size (Nat.le_trans Xe.out.size X3.out.size)))⟩

set_option maxRecDepth 8000 in
set_option maxHeartbeats 8000000 in
theorem rask_wait2 (base P : Nat) (G : Option Nat) (st : Ps) (s k i m : Int) (d : ByteArray) (xc xs xk xi xm : Int) (xd : ByteArray) (w : World) (H : RAt w base P G st) (hd : d.size ≤ maxLen) (hm : mayReqB 2 s k i m d.size = true) (hs : st.w 2 = some ⟨xc, xs, xk, xi, xm, xd⟩) (hx1 : 1 ≤ xs) :
    Calls Try.prog 12 #[.pointer (some ⟨P, 0, none⟩), .agg #[.int .i64 2, .int .i64 s, .int .i64 k, .int .i64 i, .int .i64 m, .string d]] w fun e w' => e = .returned (.int .i64 4) ∧ Ext w w' := by
  refine hide_post fun D hD => ?_
  obtain ⟨hbP, v, l0, l1, l2, l3, o0, o1, o2, o3, L, kP, hl, hw, hown, hG, hL, hin⟩ := H
  obtain ⟨w0, hw0⟩ : ∃ w0, w0 = w.alloc (.cells #[.int .i64 2, .int .i64 s, .int .i64 k, .int .i64 i, .int .i64 m, .string d] 29) := ⟨_, rfl⟩
  have hb0 : Ext w w0 := by rw [hw0]; exact Ext.alloc _ _
  have KQ : Hid (Blk w0 w.heap.size 29 #[.int .i64 2, .int .i64 s, .int .i64 k, .int .i64 i, .int .i64 m, .string d]) := by show Blk _ _ _ _; rw [hw0]; exact Blk.new _ _ _
  have CM : Hid (∀ V, Calls Try.prog 37 #[.agg #[.int .i64 2, .int .i64 s, .int .i64 k, .int .i64 i, .int .i64 m, .string d]] V fun e w' => e = .returned (.bool true) ∧ Ext V w') := fun V => by rw [← hm]; exact refMayReq_any 2 s k i m d V hd
  have X0 : Hid (Ext w w0) := hb0
  have HW := Lib.hid hw0
  have ho : o2 = some ⟨xc, xs, xk, xi, xm, xd⟩ := by unfold Ps.w at hs; rw [hw] at hs; exact hs
  subst ho
  have hx2 : 0 < xs := by omega
  have y0 : ∀ V, Ext w0 V → V.cell? ⟨P, 0, none⟩ = some (v) := fun V h => (((kP.stay hb0).stay h)).cell 0
  have y3 : ∀ V, Ext w0 V → V.cell? ⟨P, 3, none⟩ = some (.int .i64 l2) := fun V h => (((kP.stay hb0).stay h)).cell 3
  have y17 : ∀ V, Ext w0 V → V.cell? ⟨P, 17, none⟩ = some (.int .i64 xc) := fun V h => (((kP.stay hb0).stay h)).cell 17
  have y18 : ∀ V, Ext w0 V → V.cell? ⟨P, 18, none⟩ = some (.int .i64 xs) := fun V h => (((kP.stay hb0).stay h)).cell 18
  have y19 : ∀ V, Ext w0 V → V.cell? ⟨P, 19, none⟩ = some (.int .i64 xk) := fun V h => (((kP.stay hb0).stay h)).cell 19
  have y20 : ∀ V, Ext w0 V → V.cell? ⟨P, 20, none⟩ = some (.int .i64 xi) := fun V h => (((kP.stay hb0).stay h)).cell 20
  have y21 : ∀ V, Ext w0 V → V.cell? ⟨P, 21, none⟩ = some (.int .i64 xm) := fun V h => (((kP.stay hb0).stay h)).cell 21
  have y22 : ∀ V, Ext w0 V → V.cell? ⟨P, 22, none⟩ = some (.string xd) := fun V h => (((kP.stay hb0).stay h)).cell 22
  have z0 : ∀ V, Ext w0 V → V.cell? ⟨w.heap.size, 0, none⟩ = some (.int .i64 2) := fun V h => ((KQ.out.stay h)).cell 0
  have z1 : ∀ V, Ext w0 V → V.cell? ⟨w.heap.size, 1, none⟩ = some (.int .i64 s) := fun V h => ((KQ.out.stay h)).cell 1
  have z2 : ∀ V, Ext w0 V → V.cell? ⟨w.heap.size, 2, none⟩ = some (.int .i64 k) := fun V h => ((KQ.out.stay h)).cell 2
  have z3 : ∀ V, Ext w0 V → V.cell? ⟨w.heap.size, 3, none⟩ = some (.int .i64 i) := fun V h => ((KQ.out.stay h)).cell 3
  have z4 : ∀ V, Ext w0 V → V.cell? ⟨w.heap.size, 4, none⟩ = some (.int .i64 m) := fun V h => ((KQ.out.stay h)).cell 4
  have z5 : ∀ V, Ext w0 V → V.cell? ⟨w.heap.size, 5, none⟩ = some (.string d) := fun V h => ((KQ.out.stay h)).cell 5
  clear hb0 hw0 kP hl hw hown hG hL hin hm hd hs hx1
  go_enter Try.func12, Try.ntmps12
  go_wp2_with (go_at_call 37; rw [← HW.out]; (with_reducible refine (CM.out _).mono ?_); rintro e w1 ⟨rfl, hx⟩; have E1 : Hid (Ext w0 w1) := hx; clear hx)
  refine ext_begin (by kernel_rfl) ?_
  have E1d := Lib.hid (Ext.drewR E1.out)
  refine ext_take (i := 0) (v := ?_) rfl (by kernel_rfl) (by kernel_rfl) (by kernel_rfl) (fun _ _ _ h => h) (by rfl) ?_ ?_
  rotate_left
  · intro W hW; have hW0 := Ext.trans E1d.out hW; clear hW; go_simp <;> with_reducible rfl
  try simp only [Act.put, List.setIfInBounds_toArray, List.set_cons_zero, List.set_cons_succ]
  refine ext_take (i := 1) (v := ?_) rfl (by kernel_rfl) (by kernel_rfl) (by kernel_rfl) (fun _ _ _ h => h) (by rfl) ?_ ?_
  rotate_left
  · intro W hW; have hW0 := Ext.trans E1d.out hW; clear hW; go_simp <;> with_reducible rfl
  try simp only [Act.put, List.setIfInBounds_toArray, List.set_cons_zero, List.set_cons_succ]
  refine ext_take (i := 2) (v := ?_) rfl (by kernel_rfl) (by kernel_rfl) (by kernel_rfl) (fun _ _ _ h => h) (by rfl) ?_ ?_
  rotate_left
  · intro W hW; have hW0 := Ext.trans E1d.out hW; clear hW; go_simp <;> with_reducible rfl
  try simp only [Act.put, List.setIfInBounds_toArray, List.set_cons_zero, List.set_cons_succ]
  refine ext_take (i := 3) (v := ?_) rfl (by kernel_rfl) (by kernel_rfl) (by kernel_rfl) (fun _ _ _ h => h) (by rfl) ?_ ?_
  rotate_left
  · intro W hW; have hW0 := Ext.trans E1d.out hW; clear hW; go_simp <;> with_reducible rfl
  try simp only [Act.put, List.setIfInBounds_toArray, List.set_cons_zero, List.set_cons_succ]
  refine ext_take (i := 4) (v := ?_) rfl (by kernel_rfl) (by kernel_rfl) (by kernel_rfl) (fun _ _ _ h => h) (by rfl) ?_ ?_
  rotate_left
  · intro W hW; have hW0 := Ext.trans E1d.out hW; clear hW; go_simp <;> with_reducible rfl
  try simp only [Act.put, List.setIfInBounds_toArray, List.set_cons_zero, List.set_cons_succ]
  refine ext_take (i := 5) (v := ?_) rfl (by kernel_rfl) (by kernel_rfl) (by kernel_rfl) (fun _ _ _ h => h) (by rfl) ?_ ?_
  rotate_left
  · intro W hW; have hW0 := Ext.trans E1d.out hW; clear hW; go_simp <;> with_reducible rfl
  try simp only [Act.put, List.setIfInBounds_toArray, List.set_cons_zero, List.set_cons_succ]
  refine ext_take (i := 6) (v := ?_) rfl (by kernel_rfl) (by kernel_rfl) (by kernel_rfl) (fun _ _ _ h => h) (by rfl) ?_ ?_
  rotate_left
  · intro W hW; have hW0 := Ext.trans E1d.out hW; clear hW; go_simp <;> with_reducible rfl
  try simp only [Act.put, List.setIfInBounds_toArray, List.set_cons_zero, List.set_cons_succ]
  refine ext_take (i := 7) (v := ?_) rfl (by kernel_rfl) (by kernel_rfl) (by kernel_rfl) (fun _ _ _ h => h) (by rfl) ?_ ?_
  rotate_left
  · intro W hW; have hW0 := Ext.trans E1d.out hW; clear hW; go_simp <;> with_reducible rfl
  try simp only [Act.put, List.setIfInBounds_toArray, List.set_cons_zero, List.set_cons_succ]
  refine ext_take (i := 8) (v := ?_) rfl (by kernel_rfl) (by kernel_rfl) (by kernel_rfl) (fun _ _ _ h => h) (by rfl) ?_ ?_
  rotate_left
  · intro W hW; have hW0 := Ext.trans E1d.out hW; clear hW; go_simp <;> with_reducible rfl
  try simp only [Act.put, List.setIfInBounds_toArray, List.set_cons_zero, List.set_cons_succ]
  refine ext_take (i := 9) (v := ?_) rfl (by kernel_rfl) (by kernel_rfl) (by kernel_rfl) (fun _ _ _ h => h) (by rfl) ?_ ?_
  rotate_left
  · intro W hW; have hW0 := Ext.trans E1d.out hW; clear hW; go_simp <;> with_reducible rfl
  try simp only [Act.put, List.setIfInBounds_toArray, List.set_cons_zero, List.set_cons_succ]
  refine wpAnyH_done (by kernel_rfl) ?_ _
  have EX := Lib.hid E1d.out
  clear E1d
  try go_wp2_with fail
  try go_ret
  exact hD.out _ _ ⟨rfl, Ext.trans X0.out EX.out⟩

set_option maxRecDepth 8000 in
set_option maxHeartbeats 8000000 in
theorem rask_old2 (base P : Nat) (G : Option Nat) (st : Ps) (s k i m : Int) (d : ByteArray) (w : World) (H : RAt w base P G st) (hd : d.size ≤ maxLen) (hm : mayReqB 2 s k i m d.size = true) (hs : st.w 2 = none) (ht : s ≤ st.la 2) :
    Calls Try.prog 12 #[.pointer (some ⟨P, 0, none⟩), .agg #[.int .i64 2, .int .i64 s, .int .i64 k, .int .i64 i, .int .i64 m, .string d]] w fun e w' => e = .returned (.int .i64 9) ∧ Ext w w' := by
  refine hide_post fun D hD => ?_
  obtain ⟨hbP, v, l0, l1, l2, l3, o0, o1, o2, o3, L, kP, hl, hw, hown, hG, hL, hin⟩ := H
  obtain ⟨w0, hw0⟩ : ∃ w0, w0 = w.alloc (.cells #[.int .i64 2, .int .i64 s, .int .i64 k, .int .i64 i, .int .i64 m, .string d] 29) := ⟨_, rfl⟩
  have hb0 : Ext w w0 := by rw [hw0]; exact Ext.alloc _ _
  have KQ : Hid (Blk w0 w.heap.size 29 #[.int .i64 2, .int .i64 s, .int .i64 k, .int .i64 i, .int .i64 m, .string d]) := by show Blk _ _ _ _; rw [hw0]; exact Blk.new _ _ _
  have CM : Hid (∀ V, Calls Try.prog 37 #[.agg #[.int .i64 2, .int .i64 s, .int .i64 k, .int .i64 i, .int .i64 m, .string d]] V fun e w' => e = .returned (.bool true) ∧ Ext V w') := fun V => by rw [← hm]; exact refMayReq_any 2 s k i m d V hd
  have X0 : Hid (Ext w w0) := hb0
  have HW := Lib.hid hw0
  have ho : o2 = none := by unfold Ps.w at hs; rw [hw] at hs; exact hs
  subst ho
  have hlc : l2 = st.la 2 := by unfold Ps.la; rw [hl]; rfl
  rw [← hlc] at ht
  have y0 : ∀ V, Ext w0 V → V.cell? ⟨P, 0, none⟩ = some (v) := fun V h => (((kP.stay hb0).stay h)).cell 0
  have y3 : ∀ V, Ext w0 V → V.cell? ⟨P, 3, none⟩ = some (.int .i64 l2) := fun V h => (((kP.stay hb0).stay h)).cell 3
  have y17 : ∀ V, Ext w0 V → V.cell? ⟨P, 17, none⟩ = some (.int .i64 0) := fun V h => (((kP.stay hb0).stay h)).cell 17
  have y18 : ∀ V, Ext w0 V → V.cell? ⟨P, 18, none⟩ = some (.int .i64 0) := fun V h => (((kP.stay hb0).stay h)).cell 18
  have y19 : ∀ V, Ext w0 V → V.cell? ⟨P, 19, none⟩ = some (.int .i64 0) := fun V h => (((kP.stay hb0).stay h)).cell 19
  have y20 : ∀ V, Ext w0 V → V.cell? ⟨P, 20, none⟩ = some (.int .i64 0) := fun V h => (((kP.stay hb0).stay h)).cell 20
  have y21 : ∀ V, Ext w0 V → V.cell? ⟨P, 21, none⟩ = some (.int .i64 0) := fun V h => (((kP.stay hb0).stay h)).cell 21
  have y22 : ∀ V, Ext w0 V → V.cell? ⟨P, 22, none⟩ = some (.string ⟨#[]⟩) := fun V h => (((kP.stay hb0).stay h)).cell 22
  have z0 : ∀ V, Ext w0 V → V.cell? ⟨w.heap.size, 0, none⟩ = some (.int .i64 2) := fun V h => ((KQ.out.stay h)).cell 0
  have z1 : ∀ V, Ext w0 V → V.cell? ⟨w.heap.size, 1, none⟩ = some (.int .i64 s) := fun V h => ((KQ.out.stay h)).cell 1
  have z2 : ∀ V, Ext w0 V → V.cell? ⟨w.heap.size, 2, none⟩ = some (.int .i64 k) := fun V h => ((KQ.out.stay h)).cell 2
  have z3 : ∀ V, Ext w0 V → V.cell? ⟨w.heap.size, 3, none⟩ = some (.int .i64 i) := fun V h => ((KQ.out.stay h)).cell 3
  have z4 : ∀ V, Ext w0 V → V.cell? ⟨w.heap.size, 4, none⟩ = some (.int .i64 m) := fun V h => ((KQ.out.stay h)).cell 4
  have z5 : ∀ V, Ext w0 V → V.cell? ⟨w.heap.size, 5, none⟩ = some (.string d) := fun V h => ((KQ.out.stay h)).cell 5
  clear hb0 hw0 kP hl hw hown hG hL hin hm hd hs hlc
  go_enter Try.func12, Try.ntmps12
  go_wp2_with (go_at_call 37; rw [← HW.out]; (with_reducible refine (CM.out _).mono ?_); rintro e w1 ⟨rfl, hx⟩; have E1 : Hid (Ext w0 w1) := hx; clear hx)
  refine ext_begin (by kernel_rfl) ?_
  have E1d := Lib.hid (Ext.drewR E1.out)
  refine ext_take (i := 0) (v := ?_) rfl (by kernel_rfl) (by kernel_rfl) (by kernel_rfl) (fun _ _ _ h => h) (by rfl) ?_ ?_
  rotate_left
  · intro W hW; have hW0 := Ext.trans E1d.out hW; clear hW; go_simp <;> with_reducible rfl
  try simp only [Act.put, List.setIfInBounds_toArray, List.set_cons_zero, List.set_cons_succ]
  refine ext_take (i := 1) (v := ?_) rfl (by kernel_rfl) (by kernel_rfl) (by kernel_rfl) (fun _ _ _ h => h) (by rfl) ?_ ?_
  rotate_left
  · intro W hW; have hW0 := Ext.trans E1d.out hW; clear hW; go_simp <;> with_reducible rfl
  try simp only [Act.put, List.setIfInBounds_toArray, List.set_cons_zero, List.set_cons_succ]
  refine ext_take (i := 2) (v := ?_) rfl (by kernel_rfl) (by kernel_rfl) (by kernel_rfl) (fun _ _ _ h => h) (by rfl) ?_ ?_
  rotate_left
  · intro W hW; have hW0 := Ext.trans E1d.out hW; clear hW; go_simp <;> with_reducible rfl
  try simp only [Act.put, List.setIfInBounds_toArray, List.set_cons_zero, List.set_cons_succ]
  refine ext_take (i := 3) (v := ?_) rfl (by kernel_rfl) (by kernel_rfl) (by kernel_rfl) (fun _ _ _ h => h) (by rfl) ?_ ?_
  rotate_left
  · intro W hW; have hW0 := Ext.trans E1d.out hW; clear hW; go_simp <;> with_reducible rfl
  try simp only [Act.put, List.setIfInBounds_toArray, List.set_cons_zero, List.set_cons_succ]
  refine ext_take (i := 4) (v := ?_) rfl (by kernel_rfl) (by kernel_rfl) (by kernel_rfl) (fun _ _ _ h => h) (by rfl) ?_ ?_
  rotate_left
  · intro W hW; have hW0 := Ext.trans E1d.out hW; clear hW; go_simp <;> with_reducible rfl
  try simp only [Act.put, List.setIfInBounds_toArray, List.set_cons_zero, List.set_cons_succ]
  refine ext_take (i := 5) (v := ?_) rfl (by kernel_rfl) (by kernel_rfl) (by kernel_rfl) (fun _ _ _ h => h) (by rfl) ?_ ?_
  rotate_left
  · intro W hW; have hW0 := Ext.trans E1d.out hW; clear hW; go_simp <;> with_reducible rfl
  try simp only [Act.put, List.setIfInBounds_toArray, List.set_cons_zero, List.set_cons_succ]
  refine ext_take (i := 6) (v := ?_) rfl (by kernel_rfl) (by kernel_rfl) (by kernel_rfl) (fun _ _ _ h => h) (by rfl) ?_ ?_
  rotate_left
  · intro W hW; have hW0 := Ext.trans E1d.out hW; clear hW; go_simp <;> with_reducible rfl
  try simp only [Act.put, List.setIfInBounds_toArray, List.set_cons_zero, List.set_cons_succ]
  refine ext_take (i := 7) (v := ?_) rfl (by kernel_rfl) (by kernel_rfl) (by kernel_rfl) (fun _ _ _ h => h) (by rfl) ?_ ?_
  rotate_left
  · intro W hW; have hW0 := Ext.trans E1d.out hW; clear hW; go_simp <;> with_reducible rfl
  try simp only [Act.put, List.setIfInBounds_toArray, List.set_cons_zero, List.set_cons_succ]
  refine ext_take (i := 8) (v := ?_) rfl (by kernel_rfl) (by kernel_rfl) (by kernel_rfl) (fun _ _ _ h => h) (by rfl) ?_ ?_
  rotate_left
  · intro W hW; have hW0 := Ext.trans E1d.out hW; clear hW; go_simp <;> with_reducible rfl
  try simp only [Act.put, List.setIfInBounds_toArray, List.set_cons_zero, List.set_cons_succ]
  refine ext_take (i := 9) (v := ?_) rfl (by kernel_rfl) (by kernel_rfl) (by kernel_rfl) (fun _ _ _ h => h) (by rfl) ?_ ?_
  rotate_left
  · intro W hW; have hW0 := Ext.trans E1d.out hW; clear hW; go_simp <;> with_reducible rfl
  try simp only [Act.put, List.setIfInBounds_toArray, List.set_cons_zero, List.set_cons_succ]
  refine wpAnyH_done (by kernel_rfl) ?_ _
  try go_wp2_with fail
  refine ext_begin (by kernel_rfl) ?_
  have E1dd := Lib.hid (Ext.drewR E1d.out)
  refine ext_take (i := 0) (v := ?_) rfl (by kernel_rfl) (by kernel_rfl) (by kernel_rfl) (fun _ _ _ h => h) (by rfl) ?_ ?_
  rotate_left
  · intro W hW; have hW0 := Ext.trans E1dd.out hW; clear hW; go_simp <;> with_reducible rfl
  try simp only [Act.put, List.setIfInBounds_toArray, List.set_cons_zero, List.set_cons_succ]
  refine ext_take (i := 1) (v := ?_) rfl (by kernel_rfl) (by kernel_rfl) (by kernel_rfl) (fun _ _ _ h => h) (by rfl) ?_ ?_
  rotate_left
  · intro W hW; have hW0 := Ext.trans E1dd.out hW; clear hW; go_simp <;> with_reducible rfl
  try simp only [Act.put, List.setIfInBounds_toArray, List.set_cons_zero, List.set_cons_succ]
  refine ext_take (i := 2) (v := ?_) rfl (by kernel_rfl) (by kernel_rfl) (by kernel_rfl) (fun _ _ _ h => h) (by rfl) ?_ ?_
  rotate_left
  · intro W hW; have hW0 := Ext.trans E1dd.out hW; clear hW; go_simp <;> with_reducible rfl
  try simp only [Act.put, List.setIfInBounds_toArray, List.set_cons_zero, List.set_cons_succ]
  refine ext_take (i := 3) (v := ?_) rfl (by kernel_rfl) (by kernel_rfl) (by kernel_rfl) (fun _ _ _ h => h) (by rfl) ?_ ?_
  rotate_left
  · intro W hW; have hW0 := Ext.trans E1dd.out hW; clear hW; go_simp <;> with_reducible rfl
  try simp only [Act.put, List.setIfInBounds_toArray, List.set_cons_zero, List.set_cons_succ]
  refine ext_take (i := 4) (v := ?_) rfl (by kernel_rfl) (by kernel_rfl) (by kernel_rfl) (fun _ _ _ h => h) (by rfl) ?_ ?_
  rotate_left
  · intro W hW; have hW0 := Ext.trans E1dd.out hW; clear hW; go_simp <;> with_reducible rfl
  try simp only [Act.put, List.setIfInBounds_toArray, List.set_cons_zero, List.set_cons_succ]
  refine ext_take (i := 5) (v := ?_) rfl (by kernel_rfl) (by kernel_rfl) (by kernel_rfl) (fun _ _ _ h => h) (by rfl) ?_ ?_
  rotate_left
  · intro W hW; have hW0 := Ext.trans E1dd.out hW; clear hW; go_simp <;> with_reducible rfl
  try simp only [Act.put, List.setIfInBounds_toArray, List.set_cons_zero, List.set_cons_succ]
  refine ext_take (i := 6) (v := ?_) rfl (by kernel_rfl) (by kernel_rfl) (by kernel_rfl) (fun _ _ _ h => h) (by rfl) ?_ ?_
  rotate_left
  · intro W hW; have hW0 := Ext.trans E1dd.out hW; clear hW; go_simp <;> with_reducible rfl
  try simp only [Act.put, List.setIfInBounds_toArray, List.set_cons_zero, List.set_cons_succ]
  refine ext_take (i := 7) (v := ?_) rfl (by kernel_rfl) (by kernel_rfl) (by kernel_rfl) (fun _ _ _ h => h) (by rfl) ?_ ?_
  rotate_left
  · intro W hW; have hW0 := Ext.trans E1dd.out hW; clear hW; go_simp <;> with_reducible rfl
  try simp only [Act.put, List.setIfInBounds_toArray, List.set_cons_zero, List.set_cons_succ]
  refine ext_take (i := 8) (v := ?_) rfl (by kernel_rfl) (by kernel_rfl) (by kernel_rfl) (fun _ _ _ h => h) (by rfl) ?_ ?_
  rotate_left
  · intro W hW; have hW0 := Ext.trans E1dd.out hW; clear hW; go_simp <;> with_reducible rfl
  try simp only [Act.put, List.setIfInBounds_toArray, List.set_cons_zero, List.set_cons_succ]
  refine ext_take (i := 9) (v := ?_) rfl (by kernel_rfl) (by kernel_rfl) (by kernel_rfl) (fun _ _ _ h => h) (by rfl) ?_ ?_
  rotate_left
  · intro W hW; have hW0 := Ext.trans E1dd.out hW; clear hW; go_simp <;> with_reducible rfl
  try simp only [Act.put, List.setIfInBounds_toArray, List.set_cons_zero, List.set_cons_succ]
  refine ext_take (i := 10) (v := ?_) rfl (by kernel_rfl) (by kernel_rfl) (by kernel_rfl) (fun _ _ _ h => h) (by rfl) ?_ ?_
  rotate_left
  · intro W hW; have hW0 := Ext.trans E1dd.out hW; clear hW; go_simp <;> with_reducible rfl
  try simp only [Act.put, List.setIfInBounds_toArray, List.set_cons_zero, List.set_cons_succ]
  refine wpAnyH_done (by kernel_rfl) ?_ _
  have EX := Lib.hid E1dd.out
  clear E1d E1dd
  try go_wp2_with fail
  try go_ret
  exact hD.out _ _ ⟨rfl, Ext.trans X0.out EX.out⟩

set_option maxRecDepth 8000 in
set_option maxHeartbeats 8000000 in
theorem rask_ok2 (base P : Nat) (G : Option Nat) (st : Ps) (s k i m : Int) (d : ByteArray) (w : World) (H : RAt w base P G st) (hd : d.size ≤ maxLen) (hm : mayReqB 2 s k i m d.size = true) (hs : st.w 2 = none) (ht : st.la 2 < s) (hn : st.acts.length ≤ 1000000) :
    Calls Try.prog 12 #[.pointer (some ⟨P, 0, none⟩), .agg #[.int .i64 2, .int .i64 s, .int .i64 k, .int .i64 i, .int .i64 m, .string d]] w fun e w' => e = .returned (.int .i64 0) ∧ ROut w w' base P G (askS st ⟨2, s, k, i, m, d⟩) := by
  refine hide_post fun D hD => ?_
  have hlt := H.lt
  obtain ⟨hbP, v, l0, l1, l2, l3, o0, o1, o2, o3, L, kP, hl, hw, hown, hG, hL, hin⟩ := H
  obtain ⟨w0, hw0⟩ : ∃ w0, w0 = w.alloc (.cells #[.int .i64 2, .int .i64 s, .int .i64 k, .int .i64 i, .int .i64 m, .string d] 29) := ⟨_, rfl⟩
  have hb0 : Ext w w0 := by rw [hw0]; exact Ext.alloc _ _
  have KQ : Hid (Blk w0 w.heap.size 29 #[.int .i64 2, .int .i64 s, .int .i64 k, .int .i64 i, .int .i64 m, .string d]) := by show Blk _ _ _ _; rw [hw0]; exact Blk.new _ _ _
  have CM : Hid (∀ V, Calls Try.prog 37 #[.agg #[.int .i64 2, .int .i64 s, .int .i64 k, .int .i64 i, .int .i64 m, .string d]] V fun e w' => e = .returned (.bool true) ∧ Ext V w') := fun V => by rw [← hm]; exact refMayReq_any 2 s k i m d V hd
  have X0 : Hid (Ext w w0) := hb0
  have HW := Lib.hid hw0
  have ho : o2 = none := by unfold Ps.w at hs; rw [hw] at hs; exact hs
  subst ho
  have hlc : l2 = st.la 2 := by unfold Ps.la; rw [hl]; rfl
  rw [← hlc] at ht
  have y0 : ∀ V, Ext w0 V → V.cell? ⟨P, 0, none⟩ = some (v) := fun V h => (((kP.stay hb0).stay h)).cell 0
  have y3 : ∀ V, Ext w0 V → V.cell? ⟨P, 3, none⟩ = some (.int .i64 l2) := fun V h => (((kP.stay hb0).stay h)).cell 3
  have y17 : ∀ V, Ext w0 V → V.cell? ⟨P, 17, none⟩ = some (.int .i64 0) := fun V h => (((kP.stay hb0).stay h)).cell 17
  have y18 : ∀ V, Ext w0 V → V.cell? ⟨P, 18, none⟩ = some (.int .i64 0) := fun V h => (((kP.stay hb0).stay h)).cell 18
  have y19 : ∀ V, Ext w0 V → V.cell? ⟨P, 19, none⟩ = some (.int .i64 0) := fun V h => (((kP.stay hb0).stay h)).cell 19
  have y20 : ∀ V, Ext w0 V → V.cell? ⟨P, 20, none⟩ = some (.int .i64 0) := fun V h => (((kP.stay hb0).stay h)).cell 20
  have y21 : ∀ V, Ext w0 V → V.cell? ⟨P, 21, none⟩ = some (.int .i64 0) := fun V h => (((kP.stay hb0).stay h)).cell 21
  have y22 : ∀ V, Ext w0 V → V.cell? ⟨P, 22, none⟩ = some (.string ⟨#[]⟩) := fun V h => (((kP.stay hb0).stay h)).cell 22
  have z0 : ∀ V, Ext w0 V → V.cell? ⟨w.heap.size, 0, none⟩ = some (.int .i64 2) := fun V h => ((KQ.out.stay h)).cell 0
  have z1 : ∀ V, Ext w0 V → V.cell? ⟨w.heap.size, 1, none⟩ = some (.int .i64 s) := fun V h => ((KQ.out.stay h)).cell 1
  have z2 : ∀ V, Ext w0 V → V.cell? ⟨w.heap.size, 2, none⟩ = some (.int .i64 k) := fun V h => ((KQ.out.stay h)).cell 2
  have z3 : ∀ V, Ext w0 V → V.cell? ⟨w.heap.size, 3, none⟩ = some (.int .i64 i) := fun V h => ((KQ.out.stay h)).cell 3
  have z4 : ∀ V, Ext w0 V → V.cell? ⟨w.heap.size, 4, none⟩ = some (.int .i64 m) := fun V h => ((KQ.out.stay h)).cell 4
  have z5 : ∀ V, Ext w0 V → V.cell? ⟨w.heap.size, 5, none⟩ = some (.string d) := fun V h => ((KQ.out.stay h)).cell 5
  have ht2 : ¬ s ≤ l2 := by omega
  have hLn : L.length ≤ 1000000000 := by have h5 := congrArg List.length hL; rw [List.length_map] at h5; omega
  have HLN : Hid (L.length ≤ 1000000000) := hLn
  have HKP := Lib.hid (kP.stay hb0)
  have HKPw := Lib.hid kP
  have HOWNw := Lib.hid hown
  have HOWN := Lib.hid hown
  have HG : Hid (v.ownBlock = G) := hG
  have HL := Lib.hid hL
  have HIN := Lib.hid hin
  have HBP : Hid (base ≤ P) := hbP
  have HBS : Hid (base ≤ w.heap.size) := Nat.le_trans hbP (Nat.le_of_lt hlt)
  have HLT : Hid (P < w.heap.size) := hlt
  have HLS := Lib.hid hl
  have HWS := Lib.hid hw
  have HNP : Hid (¬ some P = G) := fun e => by
    obtain ⟨cs, hc⟩ := own_blk hown (hG.trans e.symm)
    exact Blk.apart kP hc (by decide) rfl
  clear hb0 hw0 kP hl hw hown hG hL hin hm hd hs hlc hlt hbP hLn
  obtain ⟨g, hg⟩ : ∃ g, g = w.heap.size := ⟨_, rfl⟩
  have HGG := Lib.hid hg
  rw [← hg] at KQ z0 z1 z2 z3 z4 z5
  go_enter Try.func12, Try.ntmps12
  go_wp2_with (go_at_call 37; rw [← HW.out]; (with_reducible refine (CM.out _).mono ?_); rintro e w1 ⟨rfl, hx⟩; have E1 : Hid (Ext w0 w1) := hx; clear hx)
  rw [← HGG.out]
  clear hg
  refine ext_begin (by kernel_rfl) ?_
  have E1d := Lib.hid (Ext.drewR E1.out)
  refine ext_take (i := 0) (v := ?_) rfl (by kernel_rfl) (by kernel_rfl) (by kernel_rfl) (fun _ _ _ h => h) (by rfl) ?_ ?_
  rotate_left
  · intro W hW; have hW0 := Ext.trans E1d.out hW; clear hW; go_simp <;> with_reducible rfl
  try simp only [Act.put, List.setIfInBounds_toArray, List.set_cons_zero, List.set_cons_succ]
  refine ext_take (i := 1) (v := ?_) rfl (by kernel_rfl) (by kernel_rfl) (by kernel_rfl) (fun _ _ _ h => h) (by rfl) ?_ ?_
  rotate_left
  · intro W hW; have hW0 := Ext.trans E1d.out hW; clear hW; go_simp <;> with_reducible rfl
  try simp only [Act.put, List.setIfInBounds_toArray, List.set_cons_zero, List.set_cons_succ]
  refine ext_take (i := 2) (v := ?_) rfl (by kernel_rfl) (by kernel_rfl) (by kernel_rfl) (fun _ _ _ h => h) (by rfl) ?_ ?_
  rotate_left
  · intro W hW; have hW0 := Ext.trans E1d.out hW; clear hW; go_simp <;> with_reducible rfl
  try simp only [Act.put, List.setIfInBounds_toArray, List.set_cons_zero, List.set_cons_succ]
  refine ext_take (i := 3) (v := ?_) rfl (by kernel_rfl) (by kernel_rfl) (by kernel_rfl) (fun _ _ _ h => h) (by rfl) ?_ ?_
  rotate_left
  · intro W hW; have hW0 := Ext.trans E1d.out hW; clear hW; go_simp <;> with_reducible rfl
  try simp only [Act.put, List.setIfInBounds_toArray, List.set_cons_zero, List.set_cons_succ]
  refine ext_take (i := 4) (v := ?_) rfl (by kernel_rfl) (by kernel_rfl) (by kernel_rfl) (fun _ _ _ h => h) (by rfl) ?_ ?_
  rotate_left
  · intro W hW; have hW0 := Ext.trans E1d.out hW; clear hW; go_simp <;> with_reducible rfl
  try simp only [Act.put, List.setIfInBounds_toArray, List.set_cons_zero, List.set_cons_succ]
  refine ext_take (i := 5) (v := ?_) rfl (by kernel_rfl) (by kernel_rfl) (by kernel_rfl) (fun _ _ _ h => h) (by rfl) ?_ ?_
  rotate_left
  · intro W hW; have hW0 := Ext.trans E1d.out hW; clear hW; go_simp <;> with_reducible rfl
  try simp only [Act.put, List.setIfInBounds_toArray, List.set_cons_zero, List.set_cons_succ]
  refine ext_take (i := 6) (v := ?_) rfl (by kernel_rfl) (by kernel_rfl) (by kernel_rfl) (fun _ _ _ h => h) (by rfl) ?_ ?_
  rotate_left
  · intro W hW; have hW0 := Ext.trans E1d.out hW; clear hW; go_simp <;> with_reducible rfl
  try simp only [Act.put, List.setIfInBounds_toArray, List.set_cons_zero, List.set_cons_succ]
  refine ext_take (i := 7) (v := ?_) rfl (by kernel_rfl) (by kernel_rfl) (by kernel_rfl) (fun _ _ _ h => h) (by rfl) ?_ ?_
  rotate_left
  · intro W hW; have hW0 := Ext.trans E1d.out hW; clear hW; go_simp <;> with_reducible rfl
  try simp only [Act.put, List.setIfInBounds_toArray, List.set_cons_zero, List.set_cons_succ]
  refine ext_take (i := 8) (v := ?_) rfl (by kernel_rfl) (by kernel_rfl) (by kernel_rfl) (fun _ _ _ h => h) (by rfl) ?_ ?_
  rotate_left
  · intro W hW; have hW0 := Ext.trans E1d.out hW; clear hW; go_simp <;> with_reducible rfl
  try simp only [Act.put, List.setIfInBounds_toArray, List.set_cons_zero, List.set_cons_succ]
  refine ext_take (i := 9) (v := ?_) rfl (by kernel_rfl) (by kernel_rfl) (by kernel_rfl) (fun _ _ _ h => h) (by rfl) ?_ ?_
  rotate_left
  · intro W hW; have hW0 := Ext.trans E1d.out hW; clear hW; go_simp <;> with_reducible rfl
  try simp only [Act.put, List.setIfInBounds_toArray, List.set_cons_zero, List.set_cons_succ]
  refine wpAnyH_done (by kernel_rfl) ?_ _
  try go_wp2_with fail
  refine ext_begin (by kernel_rfl) ?_
  have E1dd := Lib.hid (Ext.drewR E1d.out)
  refine ext_take (i := 0) (v := ?_) rfl (by kernel_rfl) (by kernel_rfl) (by kernel_rfl) (fun _ _ _ h => h) (by rfl) ?_ ?_
  rotate_left
  · intro W hW; have hW0 := Ext.trans E1dd.out hW; clear hW; go_simp <;> with_reducible rfl
  try simp only [Act.put, List.setIfInBounds_toArray, List.set_cons_zero, List.set_cons_succ]
  refine ext_take (i := 1) (v := ?_) rfl (by kernel_rfl) (by kernel_rfl) (by kernel_rfl) (fun _ _ _ h => h) (by rfl) ?_ ?_
  rotate_left
  · intro W hW; have hW0 := Ext.trans E1dd.out hW; clear hW; go_simp <;> with_reducible rfl
  try simp only [Act.put, List.setIfInBounds_toArray, List.set_cons_zero, List.set_cons_succ]
  refine ext_take (i := 2) (v := ?_) rfl (by kernel_rfl) (by kernel_rfl) (by kernel_rfl) (fun _ _ _ h => h) (by rfl) ?_ ?_
  rotate_left
  · intro W hW; have hW0 := Ext.trans E1dd.out hW; clear hW; go_simp <;> with_reducible rfl
  try simp only [Act.put, List.setIfInBounds_toArray, List.set_cons_zero, List.set_cons_succ]
  refine ext_take (i := 3) (v := ?_) rfl (by kernel_rfl) (by kernel_rfl) (by kernel_rfl) (fun _ _ _ h => h) (by rfl) ?_ ?_
  rotate_left
  · intro W hW; have hW0 := Ext.trans E1dd.out hW; clear hW; go_simp <;> with_reducible rfl
  try simp only [Act.put, List.setIfInBounds_toArray, List.set_cons_zero, List.set_cons_succ]
  refine ext_take (i := 4) (v := ?_) rfl (by kernel_rfl) (by kernel_rfl) (by kernel_rfl) (fun _ _ _ h => h) (by rfl) ?_ ?_
  rotate_left
  · intro W hW; have hW0 := Ext.trans E1dd.out hW; clear hW; go_simp <;> with_reducible rfl
  try simp only [Act.put, List.setIfInBounds_toArray, List.set_cons_zero, List.set_cons_succ]
  refine ext_take (i := 5) (v := ?_) rfl (by kernel_rfl) (by kernel_rfl) (by kernel_rfl) (fun _ _ _ h => h) (by rfl) ?_ ?_
  rotate_left
  · intro W hW; have hW0 := Ext.trans E1dd.out hW; clear hW; go_simp <;> with_reducible rfl
  try simp only [Act.put, List.setIfInBounds_toArray, List.set_cons_zero, List.set_cons_succ]
  refine ext_take (i := 6) (v := ?_) rfl (by kernel_rfl) (by kernel_rfl) (by kernel_rfl) (fun _ _ _ h => h) (by rfl) ?_ ?_
  rotate_left
  · intro W hW; have hW0 := Ext.trans E1dd.out hW; clear hW; go_simp <;> with_reducible rfl
  try simp only [Act.put, List.setIfInBounds_toArray, List.set_cons_zero, List.set_cons_succ]
  refine ext_take (i := 7) (v := ?_) rfl (by kernel_rfl) (by kernel_rfl) (by kernel_rfl) (fun _ _ _ h => h) (by rfl) ?_ ?_
  rotate_left
  · intro W hW; have hW0 := Ext.trans E1dd.out hW; clear hW; go_simp <;> with_reducible rfl
  try simp only [Act.put, List.setIfInBounds_toArray, List.set_cons_zero, List.set_cons_succ]
  refine ext_take (i := 8) (v := ?_) rfl (by kernel_rfl) (by kernel_rfl) (by kernel_rfl) (fun _ _ _ h => h) (by rfl) ?_ ?_
  rotate_left
  · intro W hW; have hW0 := Ext.trans E1dd.out hW; clear hW; go_simp <;> with_reducible rfl
  try simp only [Act.put, List.setIfInBounds_toArray, List.set_cons_zero, List.set_cons_succ]
  refine ext_take (i := 9) (v := ?_) rfl (by kernel_rfl) (by kernel_rfl) (by kernel_rfl) (fun _ _ _ h => h) (by rfl) ?_ ?_
  rotate_left
  · intro W hW; have hW0 := Ext.trans E1dd.out hW; clear hW; go_simp <;> with_reducible rfl
  try simp only [Act.put, List.setIfInBounds_toArray, List.set_cons_zero, List.set_cons_succ]
  refine ext_take (i := 10) (v := ?_) rfl (by kernel_rfl) (by kernel_rfl) (by kernel_rfl) (fun _ _ _ h => h) (by rfl) ?_ ?_
  rotate_left
  · intro W hW; have hW0 := Ext.trans E1dd.out hW; clear hW; go_simp <;> with_reducible rfl
  try simp only [Act.put, List.setIfInBounds_toArray, List.set_cons_zero, List.set_cons_succ]
  refine wpAnyH_done (by kernel_rfl) ?_ _
  try go_wp2_with fail
  obtain ⟨Wa, hWa⟩ : ∃ Wa, Wa = w1.drew.drew := ⟨_, rfl⟩
  have Ew2 : Hid (Ext w0 Wa) := by (show Ext _ _); rw [hWa]; exact E1dd.out
  rw [← hWa]
  clear hWa
  have HKQa := Lib.hid (KQ.out.stay Ew2.out)
  have KPa := Lib.hid (HKP.out.stay Ew2.out)
  have hgne : ¬ g = P := by have h1 := HGG.out; have h2 := HLT.out; omega
  have KP : Hid (Blk Wa.drew P 32 #[v, .int .i64 l0, .int .i64 l1, .int .i64 l2, .int .i64 l3, .int .i64 (wq o0).c, .int .i64 (wq o0).s, .int .i64 (wq o0).k, .int .i64 (wq o0).i, .int .i64 (wq o0).m, .string (wq o0).d, .int .i64 (wq o1).c, .int .i64 (wq o1).s, .int .i64 (wq o1).k, .int .i64 (wq o1).i, .int .i64 (wq o1).m, .string (wq o1).d, .int .i64 0, .int .i64 0, .int .i64 0, .int .i64 0, .int .i64 0, .string ⟨#[]⟩, .int .i64 (wq o3).c, .int .i64 (wq o3).s, .int .i64 (wq o3).k, .int .i64 (wq o3).i, .int .i64 (wq o3).m, .string (wq o3).d]) := KPa.out.drew
  have E0f : Hid (Frm (fun k => k = P) Wa Wa.drew) := (Frm.refl _ _).drew
  have EaX : Hid (Ext w Wa) := Ext.trans X0.out Ew2.out
  clear y0 y3 y17 y18 y19 y20 y21 y22 z0 z1 z2 z3 z4 z5 E1d E1dd
  have z0 : ∀ V, Frm (fun k => k = P) Wa V → V.cell? ⟨g, 0, none⟩ = some (.int .i64 2) := fun V h => ((HKQa.out.frm h hgne)).cell 0
  have z1 : ∀ V, Frm (fun k => k = P) Wa V → V.cell? ⟨g, 1, none⟩ = some (.int .i64 s) := fun V h => ((HKQa.out.frm h hgne)).cell 1
  have z2 : ∀ V, Frm (fun k => k = P) Wa V → V.cell? ⟨g, 2, none⟩ = some (.int .i64 k) := fun V h => ((HKQa.out.frm h hgne)).cell 2
  have z3 : ∀ V, Frm (fun k => k = P) Wa V → V.cell? ⟨g, 3, none⟩ = some (.int .i64 i) := fun V h => ((HKQa.out.frm h hgne)).cell 3
  have z4 : ∀ V, Frm (fun k => k = P) Wa V → V.cell? ⟨g, 4, none⟩ = some (.int .i64 m) := fun V h => ((HKQa.out.frm h hgne)).cell 4
  have z5 : ∀ V, Frm (fun k => k = P) Wa V → V.cell? ⟨g, 5, none⟩ = some (.string d) := fun V h => ((HKQa.out.frm h hgne)).cell 5
  refine rz_begin (fun k => k = P) [] (by kernel_rfl) ?_
  refine rz_take [9, 10, 11, 12, 15, 16] (i := 0) (v := ?_) rfl (by kernel_rfl) (by kernel_rfl) (by kernel_rfl) (by kernel_rfl) (by kernel_rfl) (by kernel_rfl) (fun _ _ _ h => h) (by rfl) ?_ ?_
  rotate_left
  · intro W hW; have hW0 := Frm.tr E0f.out hW; clear hW; go_simp <;> with_reducible rfl
  try simp only [Act.put, List.setIfInBounds_toArray, List.set_cons_zero, List.set_cons_succ]
  refine rz_take [2, 11, 12, 15, 16] (i := 1) (v := ?_) rfl (by kernel_rfl) (by kernel_rfl) (by kernel_rfl) (by kernel_rfl) (by kernel_rfl) (by kernel_rfl) (fun _ _ _ h => h) (by rfl) ?_ ?_
  rotate_left
  · intro W hW; have hW0 := Frm.tr E0f.out hW; clear hW; go_simp <;> with_reducible rfl
  try simp only [Act.put, List.setIfInBounds_toArray, List.set_cons_zero, List.set_cons_succ]
  refine rz_take [11, 12, 15, 16] (i := 2) (v := ?_) rfl (by kernel_rfl) (by kernel_rfl) (by kernel_rfl) (by kernel_rfl) (by kernel_rfl) (by kernel_rfl) (fun _ _ _ h => h) (by rfl) ?_ ?_
  rotate_left
  · intro W hW; have hW0 := Frm.tr E0f.out hW; clear hW; go_simp <;> with_reducible rfl
  try simp only [Act.put, List.setIfInBounds_toArray, List.set_cons_zero, List.set_cons_succ]
  refine rz_take [13, 14, 15, 16] (i := 3) (v := ?_) rfl (by kernel_rfl) (by kernel_rfl) (by kernel_rfl) (by kernel_rfl) (by kernel_rfl) (by kernel_rfl) (fun _ _ _ h => h) (by rfl) ?_ ?_
  rotate_left
  · intro W hW; have hW0 := Frm.tr E0f.out hW; clear hW; go_simp <;> with_reducible rfl
  try simp only [Act.put, List.setIfInBounds_toArray, List.set_cons_zero, List.set_cons_succ]
  refine rz_take [5, 15, 16] (i := 4) (v := ?_) rfl (by kernel_rfl) (by kernel_rfl) (by kernel_rfl) (by kernel_rfl) (by kernel_rfl) (by kernel_rfl) (fun _ _ _ h => h) (by rfl) ?_ ?_
  rotate_left
  · intro W hW; have hW0 := Frm.tr E0f.out hW; clear hW; go_simp <;> with_reducible rfl
  try simp only [Act.put, List.setIfInBounds_toArray, List.set_cons_zero, List.set_cons_succ]
  refine rz_take [15, 16] (i := 5) (v := ?_) rfl (by kernel_rfl) (by kernel_rfl) (by kernel_rfl) (by kernel_rfl) (by kernel_rfl) (by kernel_rfl) (fun _ _ _ h => h) (by rfl) ?_ ?_
  rotate_left
  · intro W hW; have hW0 := Frm.tr E0f.out hW; clear hW; go_simp <;> with_reducible rfl
  try simp only [Act.put, List.setIfInBounds_toArray, List.set_cons_zero, List.set_cons_succ]
  refine rz_take [7, 11, 12, 15, 16] (i := 6) (v := ?_) rfl (by kernel_rfl) (by kernel_rfl) (by kernel_rfl) (by kernel_rfl) (by kernel_rfl) (by kernel_rfl) (fun _ _ _ h => h) (by rfl) ?_ ?_
  rotate_left
  · intro W hW; have hW0 := Frm.tr E0f.out hW; clear hW; go_simp <;> with_reducible rfl
  try simp only [Act.put, List.setIfInBounds_toArray, List.set_cons_zero, List.set_cons_succ]
  refine rz_take [11, 12, 15, 16] (i := 7) (v := ?_) rfl (by kernel_rfl) (by kernel_rfl) (by kernel_rfl) (by kernel_rfl) (by kernel_rfl) (by kernel_rfl) (fun _ _ _ h => h) (by rfl) ?_ ?_
  rotate_left
  · intro W hW; have hW0 := Frm.tr E0f.out hW; clear hW; go_simp <;> with_reducible rfl
  try simp only [Act.put, List.setIfInBounds_toArray, List.set_cons_zero, List.set_cons_succ]
  refine rz_take [15, 16] (i := 8) (v := ?_) rfl (by kernel_rfl) (by kernel_rfl) (by kernel_rfl) (by kernel_rfl) (by kernel_rfl) (by kernel_rfl) (fun _ _ _ h => h) (by rfl) ?_ ?_
  rotate_left
  · intro W hW; have hW0 := Frm.tr E0f.out hW; clear hW; go_simp <;> with_reducible rfl
  try simp only [Act.put, List.setIfInBounds_toArray, List.set_cons_zero, List.set_cons_succ]
  refine rz_take [10, 11, 12, 15, 16] (i := 9) (v := ?_) rfl (by kernel_rfl) (by kernel_rfl) (by kernel_rfl) (by kernel_rfl) (by kernel_rfl) (by kernel_rfl) (fun _ _ _ h => h) (by rfl) ?_ ?_
  rotate_left
  · intro W hW; have hW0 := Frm.tr E0f.out hW; clear hW; go_simp <;> with_reducible rfl
  try simp only [Act.put, List.setIfInBounds_toArray, List.set_cons_zero, List.set_cons_succ]
  refine rz_take [11, 12, 15, 16] (i := 10) (v := ?_) rfl (by kernel_rfl) (by kernel_rfl) (by kernel_rfl) (by kernel_rfl) (by kernel_rfl) (by kernel_rfl) (fun _ _ _ h => h) (by rfl) ?_ ?_
  rotate_left
  · intro W hW; have hW0 := Frm.tr E0f.out hW; clear hW; go_simp <;> with_reducible rfl
  try simp only [Act.put, List.setIfInBounds_toArray, List.set_cons_zero, List.set_cons_succ]
  refine rz_take [12, 15, 16] (i := 11) (v := ?_) rfl (by kernel_rfl) (by kernel_rfl) (by kernel_rfl) (by kernel_rfl) (by kernel_rfl) (by kernel_rfl) (fun _ _ _ h => h) (by rfl) ?_ ?_
  rotate_left
  · intro W hW; have hW0 := Frm.tr E0f.out hW; clear hW; go_simp <;> with_reducible rfl
  try simp only [Act.put, List.setIfInBounds_toArray, List.set_cons_zero, List.set_cons_succ]
  refine rz_take [14, 15, 16] (i := 13) (v := ?_) rfl (by kernel_rfl) (by kernel_rfl) (by kernel_rfl) (by kernel_rfl) (by kernel_rfl) (by kernel_rfl) (fun _ _ _ h => h) (by rfl) ?_ ?_
  rotate_left
  · intro W hW; have hW0 := Frm.tr E0f.out hW; clear hW; go_simp <;> with_reducible rfl
  try simp only [Act.put, List.setIfInBounds_toArray, List.set_cons_zero, List.set_cons_succ]
  refine rz_take [15, 16] (i := 14) (v := ?_) rfl (by kernel_rfl) (by kernel_rfl) (by kernel_rfl) (by kernel_rfl) (by kernel_rfl) (by kernel_rfl) (fun _ _ _ h => h) (by rfl) ?_ ?_
  rotate_left
  · intro W hW; have hW0 := Frm.tr E0f.out hW; clear hW; go_simp <;> with_reducible rfl
  try simp only [Act.put, List.setIfInBounds_toArray, List.set_cons_zero, List.set_cons_succ]
  refine rz_call (i := 12) rfl (by kernel_rfl) (by rfl) (fun K hK => ?_)
  have q1 := KP.out.frozen 3
  have r1 := KP.out.cell 3
  simp at r1
  go_simp
  refine hK _ _ (Frm.of_set _ _ _ rfl) ?_; clear hK K q1 r1
  obtain ⟨W1, hW1⟩ : ∃ W1, W1 = (Wa.setCell ⟨P, 3, none⟩ (.int .i64 s)).drew := ⟨_, rfl⟩
  have KP1 : Hid (Blk W1 P 32 #[v, .int .i64 l0, .int .i64 l1, .int .i64 s, .int .i64 l3, .int .i64 (wq o0).c, .int .i64 (wq o0).s, .int .i64 (wq o0).k, .int .i64 (wq o0).i, .int .i64 (wq o0).m, .string (wq o0).d, .int .i64 (wq o1).c, .int .i64 (wq o1).s, .int .i64 (wq o1).k, .int .i64 (wq o1).i, .int .i64 (wq o1).m, .string (wq o1).d, .int .i64 0, .int .i64 0, .int .i64 0, .int .i64 0, .int .i64 0, .string ⟨#[]⟩, .int .i64 (wq o3).c, .int .i64 (wq o3).s, .int .i64 (wq o3).k, .int .i64 (wq o3).i, .int .i64 (wq o3).m, .string (wq o3).d]) := by (show Blk _ _ _ _); rw [hW1]; exact KP.out.set 3 _
  have F1 : Hid (Frm (fun k => k = P) Wa.drew W1) := by (show Frm _ _ _); rw [hW1]; exact Frm.of_set (s := fun k => k = P) Wa.drew ⟨P, 3, none⟩ _ rfl
  have E8 : Hid (Frm (fun k => k = P) Wa W1) := Frm.tr E0f.out F1.out
  try rw [← hW1]
  clear hW1
  try simp only [Act.put, List.setIfInBounds_toArray, List.set_cons_zero, List.set_cons_succ]
  refine rz_take [16] (i := 15) (v := ?_) rfl (by kernel_rfl) (by kernel_rfl) (by kernel_rfl) (by kernel_rfl) (by kernel_rfl) (by kernel_rfl) (fun _ _ _ h => h) (by rfl) ?_ ?_
  rotate_left
  · intro W hW; have hW0 := Frm.tr E8.out hW; clear hW; go_simp <;> with_reducible rfl
  try simp only [Act.put, List.setIfInBounds_toArray, List.set_cons_zero, List.set_cons_succ]
  refine rz_call (i := 16) rfl (by kernel_rfl) (by rfl) (fun K hK => ?_)
  have q17 := KP1.out.frozen 17
  have r17 := KP1.out.cell 17
  have q18 := KP1.out.frozen 18
  have r18 := KP1.out.cell 18
  have q19 := KP1.out.frozen 19
  have r19 := KP1.out.cell 19
  have q20 := KP1.out.frozen 20
  have r20 := KP1.out.cell 20
  have q21 := KP1.out.frozen 21
  have r21 := KP1.out.cell 21
  have q22 := KP1.out.frozen 22
  have r22 := KP1.out.cell 22
  simp at r17 r18 r19 r20 r21 r22
  go_simp
  refine hK _ _ (Frm.tr (Frm.tr (Frm.tr (Frm.tr (Frm.tr (Frm.tr (Frm.refl (fun k => k = P) W1) (Frm.of_set _ _ _ rfl)) (Frm.of_set _ _ _ rfl)) (Frm.of_set _ _ _ rfl)) (Frm.of_set _ _ _ rfl)) (Frm.of_set _ _ _ rfl)) (Frm.of_set _ _ _ rfl)) ?_; clear hK K q17 r17 q18 r18 q19 r19 q20 r20 q21 r21 q22 r22
  obtain ⟨W2, hW2⟩ : ∃ W2, W2 = ((((((W1.setCell ⟨P, 17, none⟩ (.int .i64 2)).setCell ⟨P, 18, none⟩ (.int .i64 s)).setCell ⟨P, 19, none⟩ (.int .i64 k)).setCell ⟨P, 20, none⟩ (.int .i64 i)).setCell ⟨P, 21, none⟩ (.int .i64 m)).setCell ⟨P, 22, none⟩ (.string d)) := ⟨_, rfl⟩
  have KP2 : Hid (Blk W2 P 32 #[v, .int .i64 l0, .int .i64 l1, .int .i64 s, .int .i64 l3, .int .i64 (wq o0).c, .int .i64 (wq o0).s, .int .i64 (wq o0).k, .int .i64 (wq o0).i, .int .i64 (wq o0).m, .string (wq o0).d, .int .i64 (wq o1).c, .int .i64 (wq o1).s, .int .i64 (wq o1).k, .int .i64 (wq o1).i, .int .i64 (wq o1).m, .string (wq o1).d, .int .i64 2, .int .i64 s, .int .i64 k, .int .i64 i, .int .i64 m, .string d, .int .i64 (wq o3).c, .int .i64 (wq o3).s, .int .i64 (wq o3).k, .int .i64 (wq o3).i, .int .i64 (wq o3).m, .string (wq o3).d]) := by (show Blk _ _ _ _); rw [hW2]; exact ((((((KP1.out.set 17 (.int .i64 2)).set 18 (.int .i64 s)).set 19 (.int .i64 k)).set 20 (.int .i64 i)).set 21 (.int .i64 m)).set 22 (.string d))
  have F2 : Hid (Frm (fun k => k = P) Wa.drew W2) := by (show Frm _ _ _); rw [hW2]; exact Frm.tr (Frm.tr (Frm.tr (Frm.tr (Frm.tr (Frm.tr (F1.out) (Frm.of_set _ _ _ rfl)) (Frm.of_set _ _ _ rfl)) (Frm.of_set _ _ _ rfl)) (Frm.of_set _ _ _ rfl)) (Frm.of_set _ _ _ rfl)) (Frm.of_set _ _ _ rfl)
  have E9 : Hid (Frm (fun k => k = P) Wa W2) := Frm.tr E0f.out F2.out
  try rw [← hW2]
  clear hW2
  try simp only [Act.put, List.setIfInBounds_toArray, List.set_cons_zero, List.set_cons_succ]
  refine rz_done (by kernel_rfl) ?_ _
  try go_wp2_with fail
  have EP2 : Hid (Frm (fun k => k = P) w W2) := Frm.tr (Frm.of_below EaX.out _) E9.out
  have HKQ2 := Lib.hid (HKQa.out.frm E9.out hgne)
  have HOWN2 := Lib.hid (own_frmN HOWN.out EP2.out (fun k hk e => HNP.out (by rw [← e, ← hk]; exact HG.out)))
  clear z0 z1 z2 z3 z4 z5
  have hgG : ¬ some g = G := fun e => by
    obtain ⟨cs, hc⟩ := own_blk HOWN2.out (HG.out.trans e.symm)
    exact Blk.apart HKQ2.out hc (by decide) rfl
  have z0 : ∀ V, Frm (fun k => some k = G) W2 V → V.cell? ⟨g, 0, none⟩ = some (.int .i64 2) := fun V h => ((HKQ2.out.frm h hgG)).cell 0
  have z1 : ∀ V, Frm (fun k => some k = G) W2 V → V.cell? ⟨g, 1, none⟩ = some (.int .i64 s) := fun V h => ((HKQ2.out.frm h hgG)).cell 1
  have z2 : ∀ V, Frm (fun k => some k = G) W2 V → V.cell? ⟨g, 2, none⟩ = some (.int .i64 k) := fun V h => ((HKQ2.out.frm h hgG)).cell 2
  have z3 : ∀ V, Frm (fun k => some k = G) W2 V → V.cell? ⟨g, 3, none⟩ = some (.int .i64 i) := fun V h => ((HKQ2.out.frm h hgG)).cell 3
  have z4 : ∀ V, Frm (fun k => some k = G) W2 V → V.cell? ⟨g, 4, none⟩ = some (.int .i64 m) := fun V h => ((HKQ2.out.frm h hgG)).cell 4
  have z5 : ∀ V, Frm (fun k => some k = G) W2 V → V.cell? ⟨g, 5, none⟩ = some (.string d) := fun V h => ((HKQ2.out.frm h hgG)).cell 5
  have y0 : ∀ V, Frm (fun k => some k = G) W2 V → V.cell? ⟨P, 0, none⟩ = some (v) := fun V h => (KP2.out.frm h HNP.out).cell 0
  have Xe : Hid (Ext W2 W2.drew) := (Ext.refl _).drewR
  have E0g : Hid (Frm (fun k => some k = G) W2 W2.drew) := Frm.of_below Xe.out _
  refine rz_begin (fun k => some k = G) [15] (by kernel_rfl) ?_
  refine rz_take [13, 14, 15] (i := 0) (v := ?_) rfl (by kernel_rfl) (by kernel_rfl) (by kernel_rfl) (by kernel_rfl) (by kernel_rfl) (by kernel_rfl) (fun _ _ _ h => h) (by rfl) ?_ ?_
  rotate_left
  · intro W hW; have hW0 := Frm.tr E0g.out hW; clear hW; go_simp <;> with_reducible rfl
  try simp only [Act.put, List.setIfInBounds_toArray, List.set_cons_zero, List.set_cons_succ]
  refine rz_take [2, 3, 4, 12, 13, 14, 15] (i := 1) (v := ?_) rfl (by kernel_rfl) (by kernel_rfl) (by kernel_rfl) (by kernel_rfl) (by kernel_rfl) (by kernel_rfl) (fun _ _ _ h => h) (by rfl) ?_ ?_
  rotate_left
  · intro W hW; have hW0 := Frm.tr E0g.out hW; clear hW; go_simp <;> with_reducible rfl
  try simp only [Act.put, List.setIfInBounds_toArray, List.set_cons_zero, List.set_cons_succ]
  refine rz_take [3, 4, 12, 13, 14, 15] (i := 2) (v := ?_) rfl (by kernel_rfl) (by kernel_rfl) (by kernel_rfl) (by kernel_rfl) (by kernel_rfl) (by kernel_rfl) (fun _ _ _ h => h) (by rfl) ?_ ?_
  rotate_left
  · intro W hW; have hW0 := Frm.tr E0g.out hW; clear hW; go_simp <;> with_reducible rfl
  try simp only [Act.put, List.setIfInBounds_toArray, List.set_cons_zero, List.set_cons_succ]
  refine rz_take [4, 12, 13, 14, 15] (i := 3) (v := ?_) rfl (by kernel_rfl) (by kernel_rfl) (by kernel_rfl) (by kernel_rfl) (by kernel_rfl) (by kernel_rfl) (fun _ _ _ h => h) (by rfl) ?_ ?_
  rotate_left
  · intro W hW; have hW0 := Frm.tr E0g.out hW; clear hW; go_simp <;> with_reducible rfl
  try simp only [Act.put, List.setIfInBounds_toArray, List.set_cons_zero, List.set_cons_succ]
  refine rz_take [12, 13, 14, 15] (i := 4) (v := ?_) rfl (by kernel_rfl) (by kernel_rfl) (by kernel_rfl) (by kernel_rfl) (by kernel_rfl) (by kernel_rfl) (fun _ _ _ h => h) (by rfl) ?_ ?_
  rotate_left
  · intro W hW; have hW0 := Frm.tr E0g.out hW; clear hW; go_simp <;> with_reducible rfl
  try simp only [Act.put, List.setIfInBounds_toArray, List.set_cons_zero, List.set_cons_succ]
  refine rz_take [6, 10, 11, 12, 13, 14, 15] (i := 5) (v := ?_) rfl (by kernel_rfl) (by kernel_rfl) (by kernel_rfl) (by kernel_rfl) (by kernel_rfl) (by kernel_rfl) (fun _ _ _ h => h) (by rfl) ?_ ?_
  rotate_left
  · intro W hW; have hW0 := Frm.tr E0g.out hW; clear hW; go_simp <;> with_reducible rfl
  try simp only [Act.put, List.setIfInBounds_toArray, List.set_cons_zero, List.set_cons_succ]
  refine rz_take [10, 11, 12, 13, 14, 15] (i := 6) (v := ?_) rfl (by kernel_rfl) (by kernel_rfl) (by kernel_rfl) (by kernel_rfl) (by kernel_rfl) (by kernel_rfl) (fun _ _ _ h => h) (by rfl) ?_ ?_
  rotate_left
  · intro W hW; have hW0 := Frm.tr E0g.out hW; clear hW; go_simp <;> with_reducible rfl
  try simp only [Act.put, List.setIfInBounds_toArray, List.set_cons_zero, List.set_cons_succ]
  refine rz_take [8, 10, 11, 12, 13, 14, 15] (i := 7) (v := ?_) rfl (by kernel_rfl) (by kernel_rfl) (by kernel_rfl) (by kernel_rfl) (by kernel_rfl) (by kernel_rfl) (fun _ _ _ h => h) (by rfl) ?_ ?_
  rotate_left
  · intro W hW; have hW0 := Frm.tr E0g.out hW; clear hW; go_simp <;> with_reducible rfl
  try simp only [Act.put, List.setIfInBounds_toArray, List.set_cons_zero, List.set_cons_succ]
  refine rz_take [10, 11, 12, 13, 14, 15] (i := 8) (v := ?_) rfl (by kernel_rfl) (by kernel_rfl) (by kernel_rfl) (by kernel_rfl) (by kernel_rfl) (by kernel_rfl) (fun _ _ _ h => h) (by rfl) ?_ ?_
  rotate_left
  · intro W hW; have hW0 := Frm.tr E0g.out hW; clear hW; go_simp <;> with_reducible rfl
  try simp only [Act.put, List.setIfInBounds_toArray, List.set_cons_zero, List.set_cons_succ]
  refine rz_take [10, 11, 12, 13, 14, 15] (i := 9) (v := ?_) rfl (by kernel_rfl) (by kernel_rfl) (by kernel_rfl) (by kernel_rfl) (by kernel_rfl) (by kernel_rfl) (fun _ _ _ h => h) (by rfl) ?_ ?_
  rotate_left
  · intro W hW; have hW0 := Frm.tr E0g.out hW; clear hW; go_simp <;> with_reducible rfl
  try simp only [Act.put, List.setIfInBounds_toArray, List.set_cons_zero, List.set_cons_succ]
  refine rz_take [11, 12, 13, 14, 15] (i := 10) (v := ?_) rfl (by kernel_rfl) (by kernel_rfl) (by kernel_rfl) (by kernel_rfl) (by kernel_rfl) (by kernel_rfl) (fun _ _ _ h => h) (by rfl) ?_ ?_
  rotate_left
  · intro W hW; have hW0 := Frm.tr E0g.out hW; clear hW; go_simp <;> with_reducible rfl
  try simp only [Act.put, List.setIfInBounds_toArray, List.set_cons_zero, List.set_cons_succ]
  refine rz_call (i := 11) rfl (by kernel_rfl) (by rfl) (fun K hK => ?_)
  go_simp
  refine hK _ _ (Frm.of_alloc _ _ _) ?_; clear hK K
  obtain ⟨W3, hW3⟩ : ∃ W3, W3 = (W2.alloc (.cells #[.int .i64 2, .int .i64 s, .bool false, .int .i64 2, .int .i64 s, .int .i64 k, .int .i64 i, .int .i64 m, .string d, .int .i64 0, .int .i64 0, .string ⟨#[]⟩, .slice none 0 0, .int .i64 0] 50)).drew := ⟨_, rfl⟩
  have KR3 : Hid (Blk W3 W2.drew.heap.size 50 #[.int .i64 2, .int .i64 s, .bool false, .int .i64 2, .int .i64 s, .int .i64 k, .int .i64 i, .int .i64 m, .string d, .int .i64 0, .int .i64 0, .string ⟨#[]⟩, .slice none 0 0, .int .i64 0]) := by (show Blk _ _ _ _); rw [hW3]; exact Blk.new W2.drew _ _
  have X3 : Hid (Ext W2.drew W3) := by (show Ext _ _); rw [hW3]; exact Ext.alloc W2.drew _
  have E3 : Hid (Frm (fun k => some k = G) W2 W3) := Frm.tr E0g.out (Frm.of_below X3.out _)
  try rw [← hW3]
  clear hW3
  try simp only [Act.put, List.setIfInBounds_toArray, List.set_cons_zero, List.set_cons_succ]
  refine rz_call (i := 12) rfl (by kernel_rfl) (by rfl) (fun K hK => ?_)
  refine wp_append_wide (.tmp 49) (.tmp 56) 26 rfl base 50 _ 14 144 Try.underlying26 info_act rfl (by decide) (by decide) v L.length (flatA L) rfl (own_frmN HOWN2.out (Frm.of_below (Ext.trans Xe.out X3.out) (fun _ => False)) (fun _ _ h => h)) W2.drew.heap.size [.int .i64 2, .int .i64 s, .bool false, .int .i64 2, .int .i64 s, .int .i64 k, .int .i64 i, .int .i64 m, .string d, .int .i64 0, .int .i64 0, .string ⟨#[]⟩, .slice none 0 0, .int .i64 0] rfl rfl KR3.out (by intro y hy; simp at hy; rcases hy with rfl | rfl | rfl | rfl | rfl | rfl | rfl | rfl | rfl | rfl | rfl | rfl | rfl | rfl <;> rfl) HLN.out (Nat.le_trans HBS.out (Nat.le_trans (Frm.tr EP2.out (Frm.of_below Xe.out _)).size X3.out.size)) ?_
  intro v2 W4 oo gg bb
  obtain ⟨A2, cap2, hv2⟩ := own_shape oo
  subst hv2
  refine hK _ _ (Frm.of_grown gg (fun k hk => hk.trans HG.out)) ?_; clear hK K
  have O4 := Lib.hid oo
  have BB4 := Lib.hid bb
  have E4 : Hid (Frm (fun k => some k = G) W2 W4) := Frm.tr E3.out (Frm.of_grown gg (fun k hk => hk.trans HG.out))
  clear oo gg bb
  have KP4 : Hid (Blk W4 P 32 #[v, .int .i64 l0, .int .i64 l1, .int .i64 s, .int .i64 l3, .int .i64 (wq o0).c, .int .i64 (wq o0).s, .int .i64 (wq o0).k, .int .i64 (wq o0).i, .int .i64 (wq o0).m, .string (wq o0).d, .int .i64 (wq o1).c, .int .i64 (wq o1).s, .int .i64 (wq o1).k, .int .i64 (wq o1).i, .int .i64 (wq o1).m, .string (wq o1).d, .int .i64 2, .int .i64 s, .int .i64 k, .int .i64 i, .int .i64 m, .string d, .int .i64 (wq o3).c, .int .i64 (wq o3).s, .int .i64 (wq o3).k, .int .i64 (wq o3).i, .int .i64 (wq o3).m, .string (wq o3).d]) := KP2.out.frm E4.out (fun e => HNP.out e)
  try simp only [Act.put, List.setIfInBounds_toArray, List.set_cons_zero, List.set_cons_succ]
  refine rz_take [14, 15] (i := 13) (v := ?_) rfl (by kernel_rfl) (by kernel_rfl) (by kernel_rfl) (by kernel_rfl) (by kernel_rfl) (by kernel_rfl) (fun _ _ _ h => h) (by rfl) ?_ ?_
  rotate_left
  · intro W hW; have hW0 := Frm.tr E4.out hW; clear hW; go_simp <;> with_reducible rfl
  try simp only [Act.put, List.setIfInBounds_toArray, List.set_cons_zero, List.set_cons_succ]
  refine rz_take [15] (i := 14) (v := ?_) rfl (by kernel_rfl) (by kernel_rfl) (by kernel_rfl) (by kernel_rfl) (by kernel_rfl) (by kernel_rfl) (fun _ _ _ h => h) (by rfl) ?_ ?_
  rotate_left
  · intro W hW; have hW0 := Frm.tr E4.out hW; clear hW; go_simp <;> with_reducible rfl
  try simp only [Act.put, List.setIfInBounds_toArray, List.set_cons_zero, List.set_cons_succ]
  refine rz_last (i := 15) rfl (by kernel_rfl) (by rfl) (by rfl) (fun K hK => ?_)
  have q1 := KP4.out.frozen 0
  have r1 := KP4.out.cell 0
  simp at r1
  go_simp
  refine hK _ _ ?_; clear hK K q1 r1
  obtain ⟨W5, hW5⟩ : ∃ W5, W5 = W4.setCell ⟨P, 0, none⟩ (.slice A2 (L.length + 1) cap2) := ⟨_, rfl⟩
  have KP5 : Hid (Blk W5 P 32 #[.slice A2 (L.length + 1) cap2, .int .i64 l0, .int .i64 l1, .int .i64 s, .int .i64 l3, .int .i64 (wq o0).c, .int .i64 (wq o0).s, .int .i64 (wq o0).k, .int .i64 (wq o0).i, .int .i64 (wq o0).m, .string (wq o0).d, .int .i64 (wq o1).c, .int .i64 (wq o1).s, .int .i64 (wq o1).k, .int .i64 (wq o1).i, .int .i64 (wq o1).m, .string (wq o1).d, .int .i64 2, .int .i64 s, .int .i64 k, .int .i64 i, .int .i64 m, .string d, .int .i64 (wq o3).c, .int .i64 (wq o3).s, .int .i64 (wq o3).k, .int .i64 (wq o3).i, .int .i64 (wq o3).m, .string (wq o3).d]) := by (show Blk _ _ _ _); rw [hW5]; exact KP4.out.set 0 _
  have F5 : Hid (Frm (fun k => k = P) W4 W5) := by (show Frm _ _ _); rw [hW5]; exact Frm.of_set _ _ _ rfl
  try rw [← hW5]
  clear hW5
  try simp only [Act.put, List.setIfInBounds_toArray, List.set_cons_zero, List.set_cons_succ]
  refine rz_done (by kernel_rfl) ?_ _
  clear z0 z1 z2 z3 z4 z5 y0
  go_wp2_with fail
  try go_ret
  have hqq : ∀ k cs, Blk w k 3 cs → ¬ k = P := fun k cs h e => by
    subst e
    exact Blk.apart HKPw.out h (by decide) rfl
  have hqg : ∀ k cs, Blk w k 3 cs → ¬ some k = G := fun k cs h e => by
    obtain ⟨cs', hc⟩ := own_blk HOWNw.out (HG.out.trans e.symm)
    exact Blk.apart hc h (by decide) rfl
  have FA : Frm (Psel P G) w W5 := Frm.tr (EP2.out.mono (fun k hk => Or.inl hk)) (Frm.tr (E4.out.mono (fun k hk => Or.inr hk)) (F5.out.mono (fun k hk => Or.inl hk)))
  have hkeep : ∀ k cs, Blk w k 3 cs → Blk W5 k 3 cs := fun k cs h => h.frm FA (fun hh => by
    rcases hh with hh | hh
    · exact hqq k cs h hh
    · exact hqg k cs h hh)
  have O5 : W5.ownsRow base 50 14 (.slice A2 (L.length + 1) cap2) (L ++ [At.mk (Ac.mk 2 s false (Rqv.mk 2 s k i m d) Rpv.zero 0) none 0]).length (flatA (L ++ [At.mk (Ac.mk 2 s false (Rqv.mk 2 s k i m d) Rpv.zero 0) none 0])) := by
    rw [flatA_append, List.length_append]
    exact own_frmN O4.out F5.out (fun k hk e => own_blkne O4.out KP4.out (by decide) k hk e)
  refine hD.out _ _ ⟨rfl, _, ⟨HBP.out, .slice A2 (L.length + 1) cap2, l0, l1, s, l3, o0, o1, some ⟨2, s, k, i, m, d⟩, o3, L ++ [At.mk (Ac.mk 2 s false (Rqv.mk 2 s k i m d) Rpv.zero 0) none 0], KP5.out, ?_, ?_, O5, rfl, ?_, ?_⟩, FA, ?_⟩
  · show st.last.set 2 s = _
    rw [HLS.out]; rfl
  · show st.wait.set 2 (some ⟨2, s, k, i, m, d⟩) = _
    rw [HWS.out]; rfl
  · rw [List.map_append, HL.out]; rfl
  · intro t ht
    rw [List.mem_append, List.mem_singleton] at ht
    rcases ht with ht | rfl
    · exact (HIN.out t ht).of (fun k cs h => hkeep k cs h)
    · exact In.nil _
  · rcases BB4.out with h5 | h5
    · exact .inl (h5.trans HG.out)
    · exact .inr ⟨_, h5, Nat.le_trans EaX.out.size (Nat.le_trans E0f.out.size (Nat.le_trans F2.out.size (Nat.le_trans Xe.out.size X3.out.size)))⟩

set_option maxRecDepth 8000 in
set_option maxHeartbeats 8000000 in
theorem rask_wait3 (base P : Nat) (G : Option Nat) (st : Ps) (s k i m : Int) (d : ByteArray) (xc xs xk xi xm : Int) (xd : ByteArray) (w : World) (H : RAt w base P G st) (hd : d.size ≤ maxLen) (hm : mayReqB 3 s k i m d.size = true) (hs : st.w 3 = some ⟨xc, xs, xk, xi, xm, xd⟩) (hx1 : 1 ≤ xs) :
    Calls Try.prog 12 #[.pointer (some ⟨P, 0, none⟩), .agg #[.int .i64 3, .int .i64 s, .int .i64 k, .int .i64 i, .int .i64 m, .string d]] w fun e w' => e = .returned (.int .i64 4) ∧ Ext w w' := by
  refine hide_post fun D hD => ?_
  obtain ⟨hbP, v, l0, l1, l2, l3, o0, o1, o2, o3, L, kP, hl, hw, hown, hG, hL, hin⟩ := H
  obtain ⟨w0, hw0⟩ : ∃ w0, w0 = w.alloc (.cells #[.int .i64 3, .int .i64 s, .int .i64 k, .int .i64 i, .int .i64 m, .string d] 29) := ⟨_, rfl⟩
  have hb0 : Ext w w0 := by rw [hw0]; exact Ext.alloc _ _
  have KQ : Hid (Blk w0 w.heap.size 29 #[.int .i64 3, .int .i64 s, .int .i64 k, .int .i64 i, .int .i64 m, .string d]) := by show Blk _ _ _ _; rw [hw0]; exact Blk.new _ _ _
  have CM : Hid (∀ V, Calls Try.prog 37 #[.agg #[.int .i64 3, .int .i64 s, .int .i64 k, .int .i64 i, .int .i64 m, .string d]] V fun e w' => e = .returned (.bool true) ∧ Ext V w') := fun V => by rw [← hm]; exact refMayReq_any 3 s k i m d V hd
  have X0 : Hid (Ext w w0) := hb0
  have HW := Lib.hid hw0
  have ho : o3 = some ⟨xc, xs, xk, xi, xm, xd⟩ := by unfold Ps.w at hs; rw [hw] at hs; exact hs
  subst ho
  have hx2 : 0 < xs := by omega
  have y0 : ∀ V, Ext w0 V → V.cell? ⟨P, 0, none⟩ = some (v) := fun V h => (((kP.stay hb0).stay h)).cell 0
  have y4 : ∀ V, Ext w0 V → V.cell? ⟨P, 4, none⟩ = some (.int .i64 l3) := fun V h => (((kP.stay hb0).stay h)).cell 4
  have y23 : ∀ V, Ext w0 V → V.cell? ⟨P, 23, none⟩ = some (.int .i64 xc) := fun V h => (((kP.stay hb0).stay h)).cell 23
  have y24 : ∀ V, Ext w0 V → V.cell? ⟨P, 24, none⟩ = some (.int .i64 xs) := fun V h => (((kP.stay hb0).stay h)).cell 24
  have y25 : ∀ V, Ext w0 V → V.cell? ⟨P, 25, none⟩ = some (.int .i64 xk) := fun V h => (((kP.stay hb0).stay h)).cell 25
  have y26 : ∀ V, Ext w0 V → V.cell? ⟨P, 26, none⟩ = some (.int .i64 xi) := fun V h => (((kP.stay hb0).stay h)).cell 26
  have y27 : ∀ V, Ext w0 V → V.cell? ⟨P, 27, none⟩ = some (.int .i64 xm) := fun V h => (((kP.stay hb0).stay h)).cell 27
  have y28 : ∀ V, Ext w0 V → V.cell? ⟨P, 28, none⟩ = some (.string xd) := fun V h => (((kP.stay hb0).stay h)).cell 28
  have z0 : ∀ V, Ext w0 V → V.cell? ⟨w.heap.size, 0, none⟩ = some (.int .i64 3) := fun V h => ((KQ.out.stay h)).cell 0
  have z1 : ∀ V, Ext w0 V → V.cell? ⟨w.heap.size, 1, none⟩ = some (.int .i64 s) := fun V h => ((KQ.out.stay h)).cell 1
  have z2 : ∀ V, Ext w0 V → V.cell? ⟨w.heap.size, 2, none⟩ = some (.int .i64 k) := fun V h => ((KQ.out.stay h)).cell 2
  have z3 : ∀ V, Ext w0 V → V.cell? ⟨w.heap.size, 3, none⟩ = some (.int .i64 i) := fun V h => ((KQ.out.stay h)).cell 3
  have z4 : ∀ V, Ext w0 V → V.cell? ⟨w.heap.size, 4, none⟩ = some (.int .i64 m) := fun V h => ((KQ.out.stay h)).cell 4
  have z5 : ∀ V, Ext w0 V → V.cell? ⟨w.heap.size, 5, none⟩ = some (.string d) := fun V h => ((KQ.out.stay h)).cell 5
  clear hb0 hw0 kP hl hw hown hG hL hin hm hd hs hx1
  go_enter Try.func12, Try.ntmps12
  go_wp2_with (go_at_call 37; rw [← HW.out]; (with_reducible refine (CM.out _).mono ?_); rintro e w1 ⟨rfl, hx⟩; have E1 : Hid (Ext w0 w1) := hx; clear hx)
  refine ext_begin (by kernel_rfl) ?_
  have E1d := Lib.hid (Ext.drewR E1.out)
  refine ext_take (i := 0) (v := ?_) rfl (by kernel_rfl) (by kernel_rfl) (by kernel_rfl) (fun _ _ _ h => h) (by rfl) ?_ ?_
  rotate_left
  · intro W hW; have hW0 := Ext.trans E1d.out hW; clear hW; go_simp <;> with_reducible rfl
  try simp only [Act.put, List.setIfInBounds_toArray, List.set_cons_zero, List.set_cons_succ]
  refine ext_take (i := 1) (v := ?_) rfl (by kernel_rfl) (by kernel_rfl) (by kernel_rfl) (fun _ _ _ h => h) (by rfl) ?_ ?_
  rotate_left
  · intro W hW; have hW0 := Ext.trans E1d.out hW; clear hW; go_simp <;> with_reducible rfl
  try simp only [Act.put, List.setIfInBounds_toArray, List.set_cons_zero, List.set_cons_succ]
  refine ext_take (i := 2) (v := ?_) rfl (by kernel_rfl) (by kernel_rfl) (by kernel_rfl) (fun _ _ _ h => h) (by rfl) ?_ ?_
  rotate_left
  · intro W hW; have hW0 := Ext.trans E1d.out hW; clear hW; go_simp <;> with_reducible rfl
  try simp only [Act.put, List.setIfInBounds_toArray, List.set_cons_zero, List.set_cons_succ]
  refine ext_take (i := 3) (v := ?_) rfl (by kernel_rfl) (by kernel_rfl) (by kernel_rfl) (fun _ _ _ h => h) (by rfl) ?_ ?_
  rotate_left
  · intro W hW; have hW0 := Ext.trans E1d.out hW; clear hW; go_simp <;> with_reducible rfl
  try simp only [Act.put, List.setIfInBounds_toArray, List.set_cons_zero, List.set_cons_succ]
  refine ext_take (i := 4) (v := ?_) rfl (by kernel_rfl) (by kernel_rfl) (by kernel_rfl) (fun _ _ _ h => h) (by rfl) ?_ ?_
  rotate_left
  · intro W hW; have hW0 := Ext.trans E1d.out hW; clear hW; go_simp <;> with_reducible rfl
  try simp only [Act.put, List.setIfInBounds_toArray, List.set_cons_zero, List.set_cons_succ]
  refine ext_take (i := 5) (v := ?_) rfl (by kernel_rfl) (by kernel_rfl) (by kernel_rfl) (fun _ _ _ h => h) (by rfl) ?_ ?_
  rotate_left
  · intro W hW; have hW0 := Ext.trans E1d.out hW; clear hW; go_simp <;> with_reducible rfl
  try simp only [Act.put, List.setIfInBounds_toArray, List.set_cons_zero, List.set_cons_succ]
  refine ext_take (i := 6) (v := ?_) rfl (by kernel_rfl) (by kernel_rfl) (by kernel_rfl) (fun _ _ _ h => h) (by rfl) ?_ ?_
  rotate_left
  · intro W hW; have hW0 := Ext.trans E1d.out hW; clear hW; go_simp <;> with_reducible rfl
  try simp only [Act.put, List.setIfInBounds_toArray, List.set_cons_zero, List.set_cons_succ]
  refine ext_take (i := 7) (v := ?_) rfl (by kernel_rfl) (by kernel_rfl) (by kernel_rfl) (fun _ _ _ h => h) (by rfl) ?_ ?_
  rotate_left
  · intro W hW; have hW0 := Ext.trans E1d.out hW; clear hW; go_simp <;> with_reducible rfl
  try simp only [Act.put, List.setIfInBounds_toArray, List.set_cons_zero, List.set_cons_succ]
  refine ext_take (i := 8) (v := ?_) rfl (by kernel_rfl) (by kernel_rfl) (by kernel_rfl) (fun _ _ _ h => h) (by rfl) ?_ ?_
  rotate_left
  · intro W hW; have hW0 := Ext.trans E1d.out hW; clear hW; go_simp <;> with_reducible rfl
  try simp only [Act.put, List.setIfInBounds_toArray, List.set_cons_zero, List.set_cons_succ]
  refine ext_take (i := 9) (v := ?_) rfl (by kernel_rfl) (by kernel_rfl) (by kernel_rfl) (fun _ _ _ h => h) (by rfl) ?_ ?_
  rotate_left
  · intro W hW; have hW0 := Ext.trans E1d.out hW; clear hW; go_simp <;> with_reducible rfl
  try simp only [Act.put, List.setIfInBounds_toArray, List.set_cons_zero, List.set_cons_succ]
  refine wpAnyH_done (by kernel_rfl) ?_ _
  have EX := Lib.hid E1d.out
  clear E1d
  try go_wp2_with fail
  try go_ret
  exact hD.out _ _ ⟨rfl, Ext.trans X0.out EX.out⟩

set_option maxRecDepth 8000 in
set_option maxHeartbeats 8000000 in
theorem rask_old3 (base P : Nat) (G : Option Nat) (st : Ps) (s k i m : Int) (d : ByteArray) (w : World) (H : RAt w base P G st) (hd : d.size ≤ maxLen) (hm : mayReqB 3 s k i m d.size = true) (hs : st.w 3 = none) (ht : s ≤ st.la 3) :
    Calls Try.prog 12 #[.pointer (some ⟨P, 0, none⟩), .agg #[.int .i64 3, .int .i64 s, .int .i64 k, .int .i64 i, .int .i64 m, .string d]] w fun e w' => e = .returned (.int .i64 9) ∧ Ext w w' := by
  refine hide_post fun D hD => ?_
  obtain ⟨hbP, v, l0, l1, l2, l3, o0, o1, o2, o3, L, kP, hl, hw, hown, hG, hL, hin⟩ := H
  obtain ⟨w0, hw0⟩ : ∃ w0, w0 = w.alloc (.cells #[.int .i64 3, .int .i64 s, .int .i64 k, .int .i64 i, .int .i64 m, .string d] 29) := ⟨_, rfl⟩
  have hb0 : Ext w w0 := by rw [hw0]; exact Ext.alloc _ _
  have KQ : Hid (Blk w0 w.heap.size 29 #[.int .i64 3, .int .i64 s, .int .i64 k, .int .i64 i, .int .i64 m, .string d]) := by show Blk _ _ _ _; rw [hw0]; exact Blk.new _ _ _
  have CM : Hid (∀ V, Calls Try.prog 37 #[.agg #[.int .i64 3, .int .i64 s, .int .i64 k, .int .i64 i, .int .i64 m, .string d]] V fun e w' => e = .returned (.bool true) ∧ Ext V w') := fun V => by rw [← hm]; exact refMayReq_any 3 s k i m d V hd
  have X0 : Hid (Ext w w0) := hb0
  have HW := Lib.hid hw0
  have ho : o3 = none := by unfold Ps.w at hs; rw [hw] at hs; exact hs
  subst ho
  have hlc : l3 = st.la 3 := by unfold Ps.la; rw [hl]; rfl
  rw [← hlc] at ht
  have y0 : ∀ V, Ext w0 V → V.cell? ⟨P, 0, none⟩ = some (v) := fun V h => (((kP.stay hb0).stay h)).cell 0
  have y4 : ∀ V, Ext w0 V → V.cell? ⟨P, 4, none⟩ = some (.int .i64 l3) := fun V h => (((kP.stay hb0).stay h)).cell 4
  have y23 : ∀ V, Ext w0 V → V.cell? ⟨P, 23, none⟩ = some (.int .i64 0) := fun V h => (((kP.stay hb0).stay h)).cell 23
  have y24 : ∀ V, Ext w0 V → V.cell? ⟨P, 24, none⟩ = some (.int .i64 0) := fun V h => (((kP.stay hb0).stay h)).cell 24
  have y25 : ∀ V, Ext w0 V → V.cell? ⟨P, 25, none⟩ = some (.int .i64 0) := fun V h => (((kP.stay hb0).stay h)).cell 25
  have y26 : ∀ V, Ext w0 V → V.cell? ⟨P, 26, none⟩ = some (.int .i64 0) := fun V h => (((kP.stay hb0).stay h)).cell 26
  have y27 : ∀ V, Ext w0 V → V.cell? ⟨P, 27, none⟩ = some (.int .i64 0) := fun V h => (((kP.stay hb0).stay h)).cell 27
  have y28 : ∀ V, Ext w0 V → V.cell? ⟨P, 28, none⟩ = some (.string ⟨#[]⟩) := fun V h => (((kP.stay hb0).stay h)).cell 28
  have z0 : ∀ V, Ext w0 V → V.cell? ⟨w.heap.size, 0, none⟩ = some (.int .i64 3) := fun V h => ((KQ.out.stay h)).cell 0
  have z1 : ∀ V, Ext w0 V → V.cell? ⟨w.heap.size, 1, none⟩ = some (.int .i64 s) := fun V h => ((KQ.out.stay h)).cell 1
  have z2 : ∀ V, Ext w0 V → V.cell? ⟨w.heap.size, 2, none⟩ = some (.int .i64 k) := fun V h => ((KQ.out.stay h)).cell 2
  have z3 : ∀ V, Ext w0 V → V.cell? ⟨w.heap.size, 3, none⟩ = some (.int .i64 i) := fun V h => ((KQ.out.stay h)).cell 3
  have z4 : ∀ V, Ext w0 V → V.cell? ⟨w.heap.size, 4, none⟩ = some (.int .i64 m) := fun V h => ((KQ.out.stay h)).cell 4
  have z5 : ∀ V, Ext w0 V → V.cell? ⟨w.heap.size, 5, none⟩ = some (.string d) := fun V h => ((KQ.out.stay h)).cell 5
  clear hb0 hw0 kP hl hw hown hG hL hin hm hd hs hlc
  go_enter Try.func12, Try.ntmps12
  go_wp2_with (go_at_call 37; rw [← HW.out]; (with_reducible refine (CM.out _).mono ?_); rintro e w1 ⟨rfl, hx⟩; have E1 : Hid (Ext w0 w1) := hx; clear hx)
  refine ext_begin (by kernel_rfl) ?_
  have E1d := Lib.hid (Ext.drewR E1.out)
  refine ext_take (i := 0) (v := ?_) rfl (by kernel_rfl) (by kernel_rfl) (by kernel_rfl) (fun _ _ _ h => h) (by rfl) ?_ ?_
  rotate_left
  · intro W hW; have hW0 := Ext.trans E1d.out hW; clear hW; go_simp <;> with_reducible rfl
  try simp only [Act.put, List.setIfInBounds_toArray, List.set_cons_zero, List.set_cons_succ]
  refine ext_take (i := 1) (v := ?_) rfl (by kernel_rfl) (by kernel_rfl) (by kernel_rfl) (fun _ _ _ h => h) (by rfl) ?_ ?_
  rotate_left
  · intro W hW; have hW0 := Ext.trans E1d.out hW; clear hW; go_simp <;> with_reducible rfl
  try simp only [Act.put, List.setIfInBounds_toArray, List.set_cons_zero, List.set_cons_succ]
  refine ext_take (i := 2) (v := ?_) rfl (by kernel_rfl) (by kernel_rfl) (by kernel_rfl) (fun _ _ _ h => h) (by rfl) ?_ ?_
  rotate_left
  · intro W hW; have hW0 := Ext.trans E1d.out hW; clear hW; go_simp <;> with_reducible rfl
  try simp only [Act.put, List.setIfInBounds_toArray, List.set_cons_zero, List.set_cons_succ]
  refine ext_take (i := 3) (v := ?_) rfl (by kernel_rfl) (by kernel_rfl) (by kernel_rfl) (fun _ _ _ h => h) (by rfl) ?_ ?_
  rotate_left
  · intro W hW; have hW0 := Ext.trans E1d.out hW; clear hW; go_simp <;> with_reducible rfl
  try simp only [Act.put, List.setIfInBounds_toArray, List.set_cons_zero, List.set_cons_succ]
  refine ext_take (i := 4) (v := ?_) rfl (by kernel_rfl) (by kernel_rfl) (by kernel_rfl) (fun _ _ _ h => h) (by rfl) ?_ ?_
  rotate_left
  · intro W hW; have hW0 := Ext.trans E1d.out hW; clear hW; go_simp <;> with_reducible rfl
  try simp only [Act.put, List.setIfInBounds_toArray, List.set_cons_zero, List.set_cons_succ]
  refine ext_take (i := 5) (v := ?_) rfl (by kernel_rfl) (by kernel_rfl) (by kernel_rfl) (fun _ _ _ h => h) (by rfl) ?_ ?_
  rotate_left
  · intro W hW; have hW0 := Ext.trans E1d.out hW; clear hW; go_simp <;> with_reducible rfl
  try simp only [Act.put, List.setIfInBounds_toArray, List.set_cons_zero, List.set_cons_succ]
  refine ext_take (i := 6) (v := ?_) rfl (by kernel_rfl) (by kernel_rfl) (by kernel_rfl) (fun _ _ _ h => h) (by rfl) ?_ ?_
  rotate_left
  · intro W hW; have hW0 := Ext.trans E1d.out hW; clear hW; go_simp <;> with_reducible rfl
  try simp only [Act.put, List.setIfInBounds_toArray, List.set_cons_zero, List.set_cons_succ]
  refine ext_take (i := 7) (v := ?_) rfl (by kernel_rfl) (by kernel_rfl) (by kernel_rfl) (fun _ _ _ h => h) (by rfl) ?_ ?_
  rotate_left
  · intro W hW; have hW0 := Ext.trans E1d.out hW; clear hW; go_simp <;> with_reducible rfl
  try simp only [Act.put, List.setIfInBounds_toArray, List.set_cons_zero, List.set_cons_succ]
  refine ext_take (i := 8) (v := ?_) rfl (by kernel_rfl) (by kernel_rfl) (by kernel_rfl) (fun _ _ _ h => h) (by rfl) ?_ ?_
  rotate_left
  · intro W hW; have hW0 := Ext.trans E1d.out hW; clear hW; go_simp <;> with_reducible rfl
  try simp only [Act.put, List.setIfInBounds_toArray, List.set_cons_zero, List.set_cons_succ]
  refine ext_take (i := 9) (v := ?_) rfl (by kernel_rfl) (by kernel_rfl) (by kernel_rfl) (fun _ _ _ h => h) (by rfl) ?_ ?_
  rotate_left
  · intro W hW; have hW0 := Ext.trans E1d.out hW; clear hW; go_simp <;> with_reducible rfl
  try simp only [Act.put, List.setIfInBounds_toArray, List.set_cons_zero, List.set_cons_succ]
  refine wpAnyH_done (by kernel_rfl) ?_ _
  try go_wp2_with fail
  refine ext_begin (by kernel_rfl) ?_
  have E1dd := Lib.hid (Ext.drewR E1d.out)
  refine ext_take (i := 0) (v := ?_) rfl (by kernel_rfl) (by kernel_rfl) (by kernel_rfl) (fun _ _ _ h => h) (by rfl) ?_ ?_
  rotate_left
  · intro W hW; have hW0 := Ext.trans E1dd.out hW; clear hW; go_simp <;> with_reducible rfl
  try simp only [Act.put, List.setIfInBounds_toArray, List.set_cons_zero, List.set_cons_succ]
  refine ext_take (i := 1) (v := ?_) rfl (by kernel_rfl) (by kernel_rfl) (by kernel_rfl) (fun _ _ _ h => h) (by rfl) ?_ ?_
  rotate_left
  · intro W hW; have hW0 := Ext.trans E1dd.out hW; clear hW; go_simp <;> with_reducible rfl
  try simp only [Act.put, List.setIfInBounds_toArray, List.set_cons_zero, List.set_cons_succ]
  refine ext_take (i := 2) (v := ?_) rfl (by kernel_rfl) (by kernel_rfl) (by kernel_rfl) (fun _ _ _ h => h) (by rfl) ?_ ?_
  rotate_left
  · intro W hW; have hW0 := Ext.trans E1dd.out hW; clear hW; go_simp <;> with_reducible rfl
  try simp only [Act.put, List.setIfInBounds_toArray, List.set_cons_zero, List.set_cons_succ]
  refine ext_take (i := 3) (v := ?_) rfl (by kernel_rfl) (by kernel_rfl) (by kernel_rfl) (fun _ _ _ h => h) (by rfl) ?_ ?_
  rotate_left
  · intro W hW; have hW0 := Ext.trans E1dd.out hW; clear hW; go_simp <;> with_reducible rfl
  try simp only [Act.put, List.setIfInBounds_toArray, List.set_cons_zero, List.set_cons_succ]
  refine ext_take (i := 4) (v := ?_) rfl (by kernel_rfl) (by kernel_rfl) (by kernel_rfl) (fun _ _ _ h => h) (by rfl) ?_ ?_
  rotate_left
  · intro W hW; have hW0 := Ext.trans E1dd.out hW; clear hW; go_simp <;> with_reducible rfl
  try simp only [Act.put, List.setIfInBounds_toArray, List.set_cons_zero, List.set_cons_succ]
  refine ext_take (i := 5) (v := ?_) rfl (by kernel_rfl) (by kernel_rfl) (by kernel_rfl) (fun _ _ _ h => h) (by rfl) ?_ ?_
  rotate_left
  · intro W hW; have hW0 := Ext.trans E1dd.out hW; clear hW; go_simp <;> with_reducible rfl
  try simp only [Act.put, List.setIfInBounds_toArray, List.set_cons_zero, List.set_cons_succ]
  refine ext_take (i := 6) (v := ?_) rfl (by kernel_rfl) (by kernel_rfl) (by kernel_rfl) (fun _ _ _ h => h) (by rfl) ?_ ?_
  rotate_left
  · intro W hW; have hW0 := Ext.trans E1dd.out hW; clear hW; go_simp <;> with_reducible rfl
  try simp only [Act.put, List.setIfInBounds_toArray, List.set_cons_zero, List.set_cons_succ]
  refine ext_take (i := 7) (v := ?_) rfl (by kernel_rfl) (by kernel_rfl) (by kernel_rfl) (fun _ _ _ h => h) (by rfl) ?_ ?_
  rotate_left
  · intro W hW; have hW0 := Ext.trans E1dd.out hW; clear hW; go_simp <;> with_reducible rfl
  try simp only [Act.put, List.setIfInBounds_toArray, List.set_cons_zero, List.set_cons_succ]
  refine ext_take (i := 8) (v := ?_) rfl (by kernel_rfl) (by kernel_rfl) (by kernel_rfl) (fun _ _ _ h => h) (by rfl) ?_ ?_
  rotate_left
  · intro W hW; have hW0 := Ext.trans E1dd.out hW; clear hW; go_simp <;> with_reducible rfl
  try simp only [Act.put, List.setIfInBounds_toArray, List.set_cons_zero, List.set_cons_succ]
  refine ext_take (i := 9) (v := ?_) rfl (by kernel_rfl) (by kernel_rfl) (by kernel_rfl) (fun _ _ _ h => h) (by rfl) ?_ ?_
  rotate_left
  · intro W hW; have hW0 := Ext.trans E1dd.out hW; clear hW; go_simp <;> with_reducible rfl
  try simp only [Act.put, List.setIfInBounds_toArray, List.set_cons_zero, List.set_cons_succ]
  refine ext_take (i := 10) (v := ?_) rfl (by kernel_rfl) (by kernel_rfl) (by kernel_rfl) (fun _ _ _ h => h) (by rfl) ?_ ?_
  rotate_left
  · intro W hW; have hW0 := Ext.trans E1dd.out hW; clear hW; go_simp <;> with_reducible rfl
  try simp only [Act.put, List.setIfInBounds_toArray, List.set_cons_zero, List.set_cons_succ]
  refine wpAnyH_done (by kernel_rfl) ?_ _
  have EX := Lib.hid E1dd.out
  clear E1d E1dd
  try go_wp2_with fail
  try go_ret
  exact hD.out _ _ ⟨rfl, Ext.trans X0.out EX.out⟩

set_option maxRecDepth 8000 in
set_option maxHeartbeats 8000000 in
theorem rask_ok3 (base P : Nat) (G : Option Nat) (st : Ps) (s k i m : Int) (d : ByteArray) (w : World) (H : RAt w base P G st) (hd : d.size ≤ maxLen) (hm : mayReqB 3 s k i m d.size = true) (hs : st.w 3 = none) (ht : st.la 3 < s) (hn : st.acts.length ≤ 1000000) :
    Calls Try.prog 12 #[.pointer (some ⟨P, 0, none⟩), .agg #[.int .i64 3, .int .i64 s, .int .i64 k, .int .i64 i, .int .i64 m, .string d]] w fun e w' => e = .returned (.int .i64 0) ∧ ROut w w' base P G (askS st ⟨3, s, k, i, m, d⟩) := by
  refine hide_post fun D hD => ?_
  have hlt := H.lt
  obtain ⟨hbP, v, l0, l1, l2, l3, o0, o1, o2, o3, L, kP, hl, hw, hown, hG, hL, hin⟩ := H
  obtain ⟨w0, hw0⟩ : ∃ w0, w0 = w.alloc (.cells #[.int .i64 3, .int .i64 s, .int .i64 k, .int .i64 i, .int .i64 m, .string d] 29) := ⟨_, rfl⟩
  have hb0 : Ext w w0 := by rw [hw0]; exact Ext.alloc _ _
  have KQ : Hid (Blk w0 w.heap.size 29 #[.int .i64 3, .int .i64 s, .int .i64 k, .int .i64 i, .int .i64 m, .string d]) := by show Blk _ _ _ _; rw [hw0]; exact Blk.new _ _ _
  have CM : Hid (∀ V, Calls Try.prog 37 #[.agg #[.int .i64 3, .int .i64 s, .int .i64 k, .int .i64 i, .int .i64 m, .string d]] V fun e w' => e = .returned (.bool true) ∧ Ext V w') := fun V => by rw [← hm]; exact refMayReq_any 3 s k i m d V hd
  have X0 : Hid (Ext w w0) := hb0
  have HW := Lib.hid hw0
  have ho : o3 = none := by unfold Ps.w at hs; rw [hw] at hs; exact hs
  subst ho
  have hlc : l3 = st.la 3 := by unfold Ps.la; rw [hl]; rfl
  rw [← hlc] at ht
  have y0 : ∀ V, Ext w0 V → V.cell? ⟨P, 0, none⟩ = some (v) := fun V h => (((kP.stay hb0).stay h)).cell 0
  have y4 : ∀ V, Ext w0 V → V.cell? ⟨P, 4, none⟩ = some (.int .i64 l3) := fun V h => (((kP.stay hb0).stay h)).cell 4
  have y23 : ∀ V, Ext w0 V → V.cell? ⟨P, 23, none⟩ = some (.int .i64 0) := fun V h => (((kP.stay hb0).stay h)).cell 23
  have y24 : ∀ V, Ext w0 V → V.cell? ⟨P, 24, none⟩ = some (.int .i64 0) := fun V h => (((kP.stay hb0).stay h)).cell 24
  have y25 : ∀ V, Ext w0 V → V.cell? ⟨P, 25, none⟩ = some (.int .i64 0) := fun V h => (((kP.stay hb0).stay h)).cell 25
  have y26 : ∀ V, Ext w0 V → V.cell? ⟨P, 26, none⟩ = some (.int .i64 0) := fun V h => (((kP.stay hb0).stay h)).cell 26
  have y27 : ∀ V, Ext w0 V → V.cell? ⟨P, 27, none⟩ = some (.int .i64 0) := fun V h => (((kP.stay hb0).stay h)).cell 27
  have y28 : ∀ V, Ext w0 V → V.cell? ⟨P, 28, none⟩ = some (.string ⟨#[]⟩) := fun V h => (((kP.stay hb0).stay h)).cell 28
  have z0 : ∀ V, Ext w0 V → V.cell? ⟨w.heap.size, 0, none⟩ = some (.int .i64 3) := fun V h => ((KQ.out.stay h)).cell 0
  have z1 : ∀ V, Ext w0 V → V.cell? ⟨w.heap.size, 1, none⟩ = some (.int .i64 s) := fun V h => ((KQ.out.stay h)).cell 1
  have z2 : ∀ V, Ext w0 V → V.cell? ⟨w.heap.size, 2, none⟩ = some (.int .i64 k) := fun V h => ((KQ.out.stay h)).cell 2
  have z3 : ∀ V, Ext w0 V → V.cell? ⟨w.heap.size, 3, none⟩ = some (.int .i64 i) := fun V h => ((KQ.out.stay h)).cell 3
  have z4 : ∀ V, Ext w0 V → V.cell? ⟨w.heap.size, 4, none⟩ = some (.int .i64 m) := fun V h => ((KQ.out.stay h)).cell 4
  have z5 : ∀ V, Ext w0 V → V.cell? ⟨w.heap.size, 5, none⟩ = some (.string d) := fun V h => ((KQ.out.stay h)).cell 5
  have ht2 : ¬ s ≤ l3 := by omega
  have hLn : L.length ≤ 1000000000 := by have h5 := congrArg List.length hL; rw [List.length_map] at h5; omega
  have HLN : Hid (L.length ≤ 1000000000) := hLn
  have HKP := Lib.hid (kP.stay hb0)
  have HKPw := Lib.hid kP
  have HOWNw := Lib.hid hown
  have HOWN := Lib.hid hown
  have HG : Hid (v.ownBlock = G) := hG
  have HL := Lib.hid hL
  have HIN := Lib.hid hin
  have HBP : Hid (base ≤ P) := hbP
  have HBS : Hid (base ≤ w.heap.size) := Nat.le_trans hbP (Nat.le_of_lt hlt)
  have HLT : Hid (P < w.heap.size) := hlt
  have HLS := Lib.hid hl
  have HWS := Lib.hid hw
  have HNP : Hid (¬ some P = G) := fun e => by
    obtain ⟨cs, hc⟩ := own_blk hown (hG.trans e.symm)
    exact Blk.apart kP hc (by decide) rfl
  clear hb0 hw0 kP hl hw hown hG hL hin hm hd hs hlc hlt hbP hLn
  obtain ⟨g, hg⟩ : ∃ g, g = w.heap.size := ⟨_, rfl⟩
  have HGG := Lib.hid hg
  rw [← hg] at KQ z0 z1 z2 z3 z4 z5
  go_enter Try.func12, Try.ntmps12
  go_wp2_with (go_at_call 37; rw [← HW.out]; (with_reducible refine (CM.out _).mono ?_); rintro e w1 ⟨rfl, hx⟩; have E1 : Hid (Ext w0 w1) := hx; clear hx)
  rw [← HGG.out]
  clear hg
  refine ext_begin (by kernel_rfl) ?_
  have E1d := Lib.hid (Ext.drewR E1.out)
  refine ext_take (i := 0) (v := ?_) rfl (by kernel_rfl) (by kernel_rfl) (by kernel_rfl) (fun _ _ _ h => h) (by rfl) ?_ ?_
  rotate_left
  · intro W hW; have hW0 := Ext.trans E1d.out hW; clear hW; go_simp <;> with_reducible rfl
  try simp only [Act.put, List.setIfInBounds_toArray, List.set_cons_zero, List.set_cons_succ]
  refine ext_take (i := 1) (v := ?_) rfl (by kernel_rfl) (by kernel_rfl) (by kernel_rfl) (fun _ _ _ h => h) (by rfl) ?_ ?_
  rotate_left
  · intro W hW; have hW0 := Ext.trans E1d.out hW; clear hW; go_simp <;> with_reducible rfl
  try simp only [Act.put, List.setIfInBounds_toArray, List.set_cons_zero, List.set_cons_succ]
  refine ext_take (i := 2) (v := ?_) rfl (by kernel_rfl) (by kernel_rfl) (by kernel_rfl) (fun _ _ _ h => h) (by rfl) ?_ ?_
  rotate_left
  · intro W hW; have hW0 := Ext.trans E1d.out hW; clear hW; go_simp <;> with_reducible rfl
  try simp only [Act.put, List.setIfInBounds_toArray, List.set_cons_zero, List.set_cons_succ]
  refine ext_take (i := 3) (v := ?_) rfl (by kernel_rfl) (by kernel_rfl) (by kernel_rfl) (fun _ _ _ h => h) (by rfl) ?_ ?_
  rotate_left
  · intro W hW; have hW0 := Ext.trans E1d.out hW; clear hW; go_simp <;> with_reducible rfl
  try simp only [Act.put, List.setIfInBounds_toArray, List.set_cons_zero, List.set_cons_succ]
  refine ext_take (i := 4) (v := ?_) rfl (by kernel_rfl) (by kernel_rfl) (by kernel_rfl) (fun _ _ _ h => h) (by rfl) ?_ ?_
  rotate_left
  · intro W hW; have hW0 := Ext.trans E1d.out hW; clear hW; go_simp <;> with_reducible rfl
  try simp only [Act.put, List.setIfInBounds_toArray, List.set_cons_zero, List.set_cons_succ]
  refine ext_take (i := 5) (v := ?_) rfl (by kernel_rfl) (by kernel_rfl) (by kernel_rfl) (fun _ _ _ h => h) (by rfl) ?_ ?_
  rotate_left
  · intro W hW; have hW0 := Ext.trans E1d.out hW; clear hW; go_simp <;> with_reducible rfl
  try simp only [Act.put, List.setIfInBounds_toArray, List.set_cons_zero, List.set_cons_succ]
  refine ext_take (i := 6) (v := ?_) rfl (by kernel_rfl) (by kernel_rfl) (by kernel_rfl) (fun _ _ _ h => h) (by rfl) ?_ ?_
  rotate_left
  · intro W hW; have hW0 := Ext.trans E1d.out hW; clear hW; go_simp <;> with_reducible rfl
  try simp only [Act.put, List.setIfInBounds_toArray, List.set_cons_zero, List.set_cons_succ]
  refine ext_take (i := 7) (v := ?_) rfl (by kernel_rfl) (by kernel_rfl) (by kernel_rfl) (fun _ _ _ h => h) (by rfl) ?_ ?_
  rotate_left
  · intro W hW; have hW0 := Ext.trans E1d.out hW; clear hW; go_simp <;> with_reducible rfl
  try simp only [Act.put, List.setIfInBounds_toArray, List.set_cons_zero, List.set_cons_succ]
  refine ext_take (i := 8) (v := ?_) rfl (by kernel_rfl) (by kernel_rfl) (by kernel_rfl) (fun _ _ _ h => h) (by rfl) ?_ ?_
  rotate_left
  · intro W hW; have hW0 := Ext.trans E1d.out hW; clear hW; go_simp <;> with_reducible rfl
  try simp only [Act.put, List.setIfInBounds_toArray, List.set_cons_zero, List.set_cons_succ]
  refine ext_take (i := 9) (v := ?_) rfl (by kernel_rfl) (by kernel_rfl) (by kernel_rfl) (fun _ _ _ h => h) (by rfl) ?_ ?_
  rotate_left
  · intro W hW; have hW0 := Ext.trans E1d.out hW; clear hW; go_simp <;> with_reducible rfl
  try simp only [Act.put, List.setIfInBounds_toArray, List.set_cons_zero, List.set_cons_succ]
  refine wpAnyH_done (by kernel_rfl) ?_ _
  try go_wp2_with fail
  refine ext_begin (by kernel_rfl) ?_
  have E1dd := Lib.hid (Ext.drewR E1d.out)
  refine ext_take (i := 0) (v := ?_) rfl (by kernel_rfl) (by kernel_rfl) (by kernel_rfl) (fun _ _ _ h => h) (by rfl) ?_ ?_
  rotate_left
  · intro W hW; have hW0 := Ext.trans E1dd.out hW; clear hW; go_simp <;> with_reducible rfl
  try simp only [Act.put, List.setIfInBounds_toArray, List.set_cons_zero, List.set_cons_succ]
  refine ext_take (i := 1) (v := ?_) rfl (by kernel_rfl) (by kernel_rfl) (by kernel_rfl) (fun _ _ _ h => h) (by rfl) ?_ ?_
  rotate_left
  · intro W hW; have hW0 := Ext.trans E1dd.out hW; clear hW; go_simp <;> with_reducible rfl
  try simp only [Act.put, List.setIfInBounds_toArray, List.set_cons_zero, List.set_cons_succ]
  refine ext_take (i := 2) (v := ?_) rfl (by kernel_rfl) (by kernel_rfl) (by kernel_rfl) (fun _ _ _ h => h) (by rfl) ?_ ?_
  rotate_left
  · intro W hW; have hW0 := Ext.trans E1dd.out hW; clear hW; go_simp <;> with_reducible rfl
  try simp only [Act.put, List.setIfInBounds_toArray, List.set_cons_zero, List.set_cons_succ]
  refine ext_take (i := 3) (v := ?_) rfl (by kernel_rfl) (by kernel_rfl) (by kernel_rfl) (fun _ _ _ h => h) (by rfl) ?_ ?_
  rotate_left
  · intro W hW; have hW0 := Ext.trans E1dd.out hW; clear hW; go_simp <;> with_reducible rfl
  try simp only [Act.put, List.setIfInBounds_toArray, List.set_cons_zero, List.set_cons_succ]
  refine ext_take (i := 4) (v := ?_) rfl (by kernel_rfl) (by kernel_rfl) (by kernel_rfl) (fun _ _ _ h => h) (by rfl) ?_ ?_
  rotate_left
  · intro W hW; have hW0 := Ext.trans E1dd.out hW; clear hW; go_simp <;> with_reducible rfl
  try simp only [Act.put, List.setIfInBounds_toArray, List.set_cons_zero, List.set_cons_succ]
  refine ext_take (i := 5) (v := ?_) rfl (by kernel_rfl) (by kernel_rfl) (by kernel_rfl) (fun _ _ _ h => h) (by rfl) ?_ ?_
  rotate_left
  · intro W hW; have hW0 := Ext.trans E1dd.out hW; clear hW; go_simp <;> with_reducible rfl
  try simp only [Act.put, List.setIfInBounds_toArray, List.set_cons_zero, List.set_cons_succ]
  refine ext_take (i := 6) (v := ?_) rfl (by kernel_rfl) (by kernel_rfl) (by kernel_rfl) (fun _ _ _ h => h) (by rfl) ?_ ?_
  rotate_left
  · intro W hW; have hW0 := Ext.trans E1dd.out hW; clear hW; go_simp <;> with_reducible rfl
  try simp only [Act.put, List.setIfInBounds_toArray, List.set_cons_zero, List.set_cons_succ]
  refine ext_take (i := 7) (v := ?_) rfl (by kernel_rfl) (by kernel_rfl) (by kernel_rfl) (fun _ _ _ h => h) (by rfl) ?_ ?_
  rotate_left
  · intro W hW; have hW0 := Ext.trans E1dd.out hW; clear hW; go_simp <;> with_reducible rfl
  try simp only [Act.put, List.setIfInBounds_toArray, List.set_cons_zero, List.set_cons_succ]
  refine ext_take (i := 8) (v := ?_) rfl (by kernel_rfl) (by kernel_rfl) (by kernel_rfl) (fun _ _ _ h => h) (by rfl) ?_ ?_
  rotate_left
  · intro W hW; have hW0 := Ext.trans E1dd.out hW; clear hW; go_simp <;> with_reducible rfl
  try simp only [Act.put, List.setIfInBounds_toArray, List.set_cons_zero, List.set_cons_succ]
  refine ext_take (i := 9) (v := ?_) rfl (by kernel_rfl) (by kernel_rfl) (by kernel_rfl) (fun _ _ _ h => h) (by rfl) ?_ ?_
  rotate_left
  · intro W hW; have hW0 := Ext.trans E1dd.out hW; clear hW; go_simp <;> with_reducible rfl
  try simp only [Act.put, List.setIfInBounds_toArray, List.set_cons_zero, List.set_cons_succ]
  refine ext_take (i := 10) (v := ?_) rfl (by kernel_rfl) (by kernel_rfl) (by kernel_rfl) (fun _ _ _ h => h) (by rfl) ?_ ?_
  rotate_left
  · intro W hW; have hW0 := Ext.trans E1dd.out hW; clear hW; go_simp <;> with_reducible rfl
  try simp only [Act.put, List.setIfInBounds_toArray, List.set_cons_zero, List.set_cons_succ]
  refine wpAnyH_done (by kernel_rfl) ?_ _
  try go_wp2_with fail
  obtain ⟨Wa, hWa⟩ : ∃ Wa, Wa = w1.drew.drew := ⟨_, rfl⟩
  have Ew2 : Hid (Ext w0 Wa) := by (show Ext _ _); rw [hWa]; exact E1dd.out
  rw [← hWa]
  clear hWa
  have HKQa := Lib.hid (KQ.out.stay Ew2.out)
  have KPa := Lib.hid (HKP.out.stay Ew2.out)
  have hgne : ¬ g = P := by have h1 := HGG.out; have h2 := HLT.out; omega
  have KP : Hid (Blk Wa.drew P 32 #[v, .int .i64 l0, .int .i64 l1, .int .i64 l2, .int .i64 l3, .int .i64 (wq o0).c, .int .i64 (wq o0).s, .int .i64 (wq o0).k, .int .i64 (wq o0).i, .int .i64 (wq o0).m, .string (wq o0).d, .int .i64 (wq o1).c, .int .i64 (wq o1).s, .int .i64 (wq o1).k, .int .i64 (wq o1).i, .int .i64 (wq o1).m, .string (wq o1).d, .int .i64 (wq o2).c, .int .i64 (wq o2).s, .int .i64 (wq o2).k, .int .i64 (wq o2).i, .int .i64 (wq o2).m, .string (wq o2).d, .int .i64 0, .int .i64 0, .int .i64 0, .int .i64 0, .int .i64 0, .string ⟨#[]⟩]) := KPa.out.drew
  have E0f : Hid (Frm (fun k => k = P) Wa Wa.drew) := (Frm.refl _ _).drew
  have EaX : Hid (Ext w Wa) := Ext.trans X0.out Ew2.out
  clear y0 y4 y23 y24 y25 y26 y27 y28 z0 z1 z2 z3 z4 z5 E1d E1dd
  have z0 : ∀ V, Frm (fun k => k = P) Wa V → V.cell? ⟨g, 0, none⟩ = some (.int .i64 3) := fun V h => ((HKQa.out.frm h hgne)).cell 0
  have z1 : ∀ V, Frm (fun k => k = P) Wa V → V.cell? ⟨g, 1, none⟩ = some (.int .i64 s) := fun V h => ((HKQa.out.frm h hgne)).cell 1
  have z2 : ∀ V, Frm (fun k => k = P) Wa V → V.cell? ⟨g, 2, none⟩ = some (.int .i64 k) := fun V h => ((HKQa.out.frm h hgne)).cell 2
  have z3 : ∀ V, Frm (fun k => k = P) Wa V → V.cell? ⟨g, 3, none⟩ = some (.int .i64 i) := fun V h => ((HKQa.out.frm h hgne)).cell 3
  have z4 : ∀ V, Frm (fun k => k = P) Wa V → V.cell? ⟨g, 4, none⟩ = some (.int .i64 m) := fun V h => ((HKQa.out.frm h hgne)).cell 4
  have z5 : ∀ V, Frm (fun k => k = P) Wa V → V.cell? ⟨g, 5, none⟩ = some (.string d) := fun V h => ((HKQa.out.frm h hgne)).cell 5
  refine rz_begin (fun k => k = P) [] (by kernel_rfl) ?_
  refine rz_take [9, 10, 11, 12, 15, 16] (i := 0) (v := ?_) rfl (by kernel_rfl) (by kernel_rfl) (by kernel_rfl) (by kernel_rfl) (by kernel_rfl) (by kernel_rfl) (fun _ _ _ h => h) (by rfl) ?_ ?_
  rotate_left
  · intro W hW; have hW0 := Frm.tr E0f.out hW; clear hW; go_simp <;> with_reducible rfl
  try simp only [Act.put, List.setIfInBounds_toArray, List.set_cons_zero, List.set_cons_succ]
  refine rz_take [2, 11, 12, 15, 16] (i := 1) (v := ?_) rfl (by kernel_rfl) (by kernel_rfl) (by kernel_rfl) (by kernel_rfl) (by kernel_rfl) (by kernel_rfl) (fun _ _ _ h => h) (by rfl) ?_ ?_
  rotate_left
  · intro W hW; have hW0 := Frm.tr E0f.out hW; clear hW; go_simp <;> with_reducible rfl
  try simp only [Act.put, List.setIfInBounds_toArray, List.set_cons_zero, List.set_cons_succ]
  refine rz_take [11, 12, 15, 16] (i := 2) (v := ?_) rfl (by kernel_rfl) (by kernel_rfl) (by kernel_rfl) (by kernel_rfl) (by kernel_rfl) (by kernel_rfl) (fun _ _ _ h => h) (by rfl) ?_ ?_
  rotate_left
  · intro W hW; have hW0 := Frm.tr E0f.out hW; clear hW; go_simp <;> with_reducible rfl
  try simp only [Act.put, List.setIfInBounds_toArray, List.set_cons_zero, List.set_cons_succ]
  refine rz_take [13, 14, 15, 16] (i := 3) (v := ?_) rfl (by kernel_rfl) (by kernel_rfl) (by kernel_rfl) (by kernel_rfl) (by kernel_rfl) (by kernel_rfl) (fun _ _ _ h => h) (by rfl) ?_ ?_
  rotate_left
  · intro W hW; have hW0 := Frm.tr E0f.out hW; clear hW; go_simp <;> with_reducible rfl
  try simp only [Act.put, List.setIfInBounds_toArray, List.set_cons_zero, List.set_cons_succ]
  refine rz_take [5, 15, 16] (i := 4) (v := ?_) rfl (by kernel_rfl) (by kernel_rfl) (by kernel_rfl) (by kernel_rfl) (by kernel_rfl) (by kernel_rfl) (fun _ _ _ h => h) (by rfl) ?_ ?_
  rotate_left
  · intro W hW; have hW0 := Frm.tr E0f.out hW; clear hW; go_simp <;> with_reducible rfl
  try simp only [Act.put, List.setIfInBounds_toArray, List.set_cons_zero, List.set_cons_succ]
  refine rz_take [15, 16] (i := 5) (v := ?_) rfl (by kernel_rfl) (by kernel_rfl) (by kernel_rfl) (by kernel_rfl) (by kernel_rfl) (by kernel_rfl) (fun _ _ _ h => h) (by rfl) ?_ ?_
  rotate_left
  · intro W hW; have hW0 := Frm.tr E0f.out hW; clear hW; go_simp <;> with_reducible rfl
  try simp only [Act.put, List.setIfInBounds_toArray, List.set_cons_zero, List.set_cons_succ]
  refine rz_take [7, 11, 12, 15, 16] (i := 6) (v := ?_) rfl (by kernel_rfl) (by kernel_rfl) (by kernel_rfl) (by kernel_rfl) (by kernel_rfl) (by kernel_rfl) (fun _ _ _ h => h) (by rfl) ?_ ?_
  rotate_left
  · intro W hW; have hW0 := Frm.tr E0f.out hW; clear hW; go_simp <;> with_reducible rfl
  try simp only [Act.put, List.setIfInBounds_toArray, List.set_cons_zero, List.set_cons_succ]
  refine rz_take [11, 12, 15, 16] (i := 7) (v := ?_) rfl (by kernel_rfl) (by kernel_rfl) (by kernel_rfl) (by kernel_rfl) (by kernel_rfl) (by kernel_rfl) (fun _ _ _ h => h) (by rfl) ?_ ?_
  rotate_left
  · intro W hW; have hW0 := Frm.tr E0f.out hW; clear hW; go_simp <;> with_reducible rfl
  try simp only [Act.put, List.setIfInBounds_toArray, List.set_cons_zero, List.set_cons_succ]
  refine rz_take [15, 16] (i := 8) (v := ?_) rfl (by kernel_rfl) (by kernel_rfl) (by kernel_rfl) (by kernel_rfl) (by kernel_rfl) (by kernel_rfl) (fun _ _ _ h => h) (by rfl) ?_ ?_
  rotate_left
  · intro W hW; have hW0 := Frm.tr E0f.out hW; clear hW; go_simp <;> with_reducible rfl
  try simp only [Act.put, List.setIfInBounds_toArray, List.set_cons_zero, List.set_cons_succ]
  refine rz_take [10, 11, 12, 15, 16] (i := 9) (v := ?_) rfl (by kernel_rfl) (by kernel_rfl) (by kernel_rfl) (by kernel_rfl) (by kernel_rfl) (by kernel_rfl) (fun _ _ _ h => h) (by rfl) ?_ ?_
  rotate_left
  · intro W hW; have hW0 := Frm.tr E0f.out hW; clear hW; go_simp <;> with_reducible rfl
  try simp only [Act.put, List.setIfInBounds_toArray, List.set_cons_zero, List.set_cons_succ]
  refine rz_take [11, 12, 15, 16] (i := 10) (v := ?_) rfl (by kernel_rfl) (by kernel_rfl) (by kernel_rfl) (by kernel_rfl) (by kernel_rfl) (by kernel_rfl) (fun _ _ _ h => h) (by rfl) ?_ ?_
  rotate_left
  · intro W hW; have hW0 := Frm.tr E0f.out hW; clear hW; go_simp <;> with_reducible rfl
  try simp only [Act.put, List.setIfInBounds_toArray, List.set_cons_zero, List.set_cons_succ]
  refine rz_take [12, 15, 16] (i := 11) (v := ?_) rfl (by kernel_rfl) (by kernel_rfl) (by kernel_rfl) (by kernel_rfl) (by kernel_rfl) (by kernel_rfl) (fun _ _ _ h => h) (by rfl) ?_ ?_
  rotate_left
  · intro W hW; have hW0 := Frm.tr E0f.out hW; clear hW; go_simp <;> with_reducible rfl
  try simp only [Act.put, List.setIfInBounds_toArray, List.set_cons_zero, List.set_cons_succ]
  refine rz_take [14, 15, 16] (i := 13) (v := ?_) rfl (by kernel_rfl) (by kernel_rfl) (by kernel_rfl) (by kernel_rfl) (by kernel_rfl) (by kernel_rfl) (fun _ _ _ h => h) (by rfl) ?_ ?_
  rotate_left
  · intro W hW; have hW0 := Frm.tr E0f.out hW; clear hW; go_simp <;> with_reducible rfl
  try simp only [Act.put, List.setIfInBounds_toArray, List.set_cons_zero, List.set_cons_succ]
  refine rz_take [15, 16] (i := 14) (v := ?_) rfl (by kernel_rfl) (by kernel_rfl) (by kernel_rfl) (by kernel_rfl) (by kernel_rfl) (by kernel_rfl) (fun _ _ _ h => h) (by rfl) ?_ ?_
  rotate_left
  · intro W hW; have hW0 := Frm.tr E0f.out hW; clear hW; go_simp <;> with_reducible rfl
  try simp only [Act.put, List.setIfInBounds_toArray, List.set_cons_zero, List.set_cons_succ]
  refine rz_call (i := 12) rfl (by kernel_rfl) (by rfl) (fun K hK => ?_)
  have q1 := KP.out.frozen 4
  have r1 := KP.out.cell 4
  simp at r1
  go_simp
  refine hK _ _ (Frm.of_set _ _ _ rfl) ?_; clear hK K q1 r1
  obtain ⟨W1, hW1⟩ : ∃ W1, W1 = (Wa.setCell ⟨P, 4, none⟩ (.int .i64 s)).drew := ⟨_, rfl⟩
  have KP1 : Hid (Blk W1 P 32 #[v, .int .i64 l0, .int .i64 l1, .int .i64 l2, .int .i64 s, .int .i64 (wq o0).c, .int .i64 (wq o0).s, .int .i64 (wq o0).k, .int .i64 (wq o0).i, .int .i64 (wq o0).m, .string (wq o0).d, .int .i64 (wq o1).c, .int .i64 (wq o1).s, .int .i64 (wq o1).k, .int .i64 (wq o1).i, .int .i64 (wq o1).m, .string (wq o1).d, .int .i64 (wq o2).c, .int .i64 (wq o2).s, .int .i64 (wq o2).k, .int .i64 (wq o2).i, .int .i64 (wq o2).m, .string (wq o2).d, .int .i64 0, .int .i64 0, .int .i64 0, .int .i64 0, .int .i64 0, .string ⟨#[]⟩]) := by (show Blk _ _ _ _); rw [hW1]; exact KP.out.set 4 _
  have F1 : Hid (Frm (fun k => k = P) Wa.drew W1) := by (show Frm _ _ _); rw [hW1]; exact Frm.of_set (s := fun k => k = P) Wa.drew ⟨P, 4, none⟩ _ rfl
  have E8 : Hid (Frm (fun k => k = P) Wa W1) := Frm.tr E0f.out F1.out
  try rw [← hW1]
  clear hW1
  try simp only [Act.put, List.setIfInBounds_toArray, List.set_cons_zero, List.set_cons_succ]
  refine rz_take [16] (i := 15) (v := ?_) rfl (by kernel_rfl) (by kernel_rfl) (by kernel_rfl) (by kernel_rfl) (by kernel_rfl) (by kernel_rfl) (fun _ _ _ h => h) (by rfl) ?_ ?_
  rotate_left
  · intro W hW; have hW0 := Frm.tr E8.out hW; clear hW; go_simp <;> with_reducible rfl
  try simp only [Act.put, List.setIfInBounds_toArray, List.set_cons_zero, List.set_cons_succ]
  refine rz_call (i := 16) rfl (by kernel_rfl) (by rfl) (fun K hK => ?_)
  have q23 := KP1.out.frozen 23
  have r23 := KP1.out.cell 23
  have q24 := KP1.out.frozen 24
  have r24 := KP1.out.cell 24
  have q25 := KP1.out.frozen 25
  have r25 := KP1.out.cell 25
  have q26 := KP1.out.frozen 26
  have r26 := KP1.out.cell 26
  have q27 := KP1.out.frozen 27
  have r27 := KP1.out.cell 27
  have q28 := KP1.out.frozen 28
  have r28 := KP1.out.cell 28
  simp at r23 r24 r25 r26 r27 r28
  go_simp
  refine hK _ _ (Frm.tr (Frm.tr (Frm.tr (Frm.tr (Frm.tr (Frm.tr (Frm.refl (fun k => k = P) W1) (Frm.of_set _ _ _ rfl)) (Frm.of_set _ _ _ rfl)) (Frm.of_set _ _ _ rfl)) (Frm.of_set _ _ _ rfl)) (Frm.of_set _ _ _ rfl)) (Frm.of_set _ _ _ rfl)) ?_; clear hK K q23 r23 q24 r24 q25 r25 q26 r26 q27 r27 q28 r28
  obtain ⟨W2, hW2⟩ : ∃ W2, W2 = ((((((W1.setCell ⟨P, 23, none⟩ (.int .i64 3)).setCell ⟨P, 24, none⟩ (.int .i64 s)).setCell ⟨P, 25, none⟩ (.int .i64 k)).setCell ⟨P, 26, none⟩ (.int .i64 i)).setCell ⟨P, 27, none⟩ (.int .i64 m)).setCell ⟨P, 28, none⟩ (.string d)) := ⟨_, rfl⟩
  have KP2 : Hid (Blk W2 P 32 #[v, .int .i64 l0, .int .i64 l1, .int .i64 l2, .int .i64 s, .int .i64 (wq o0).c, .int .i64 (wq o0).s, .int .i64 (wq o0).k, .int .i64 (wq o0).i, .int .i64 (wq o0).m, .string (wq o0).d, .int .i64 (wq o1).c, .int .i64 (wq o1).s, .int .i64 (wq o1).k, .int .i64 (wq o1).i, .int .i64 (wq o1).m, .string (wq o1).d, .int .i64 (wq o2).c, .int .i64 (wq o2).s, .int .i64 (wq o2).k, .int .i64 (wq o2).i, .int .i64 (wq o2).m, .string (wq o2).d, .int .i64 3, .int .i64 s, .int .i64 k, .int .i64 i, .int .i64 m, .string d]) := by (show Blk _ _ _ _); rw [hW2]; exact ((((((KP1.out.set 23 (.int .i64 3)).set 24 (.int .i64 s)).set 25 (.int .i64 k)).set 26 (.int .i64 i)).set 27 (.int .i64 m)).set 28 (.string d))
  have F2 : Hid (Frm (fun k => k = P) Wa.drew W2) := by (show Frm _ _ _); rw [hW2]; exact Frm.tr (Frm.tr (Frm.tr (Frm.tr (Frm.tr (Frm.tr (F1.out) (Frm.of_set _ _ _ rfl)) (Frm.of_set _ _ _ rfl)) (Frm.of_set _ _ _ rfl)) (Frm.of_set _ _ _ rfl)) (Frm.of_set _ _ _ rfl)) (Frm.of_set _ _ _ rfl)
  have E9 : Hid (Frm (fun k => k = P) Wa W2) := Frm.tr E0f.out F2.out
  try rw [← hW2]
  clear hW2
  try simp only [Act.put, List.setIfInBounds_toArray, List.set_cons_zero, List.set_cons_succ]
  refine rz_done (by kernel_rfl) ?_ _
  try go_wp2_with fail
  have EP2 : Hid (Frm (fun k => k = P) w W2) := Frm.tr (Frm.of_below EaX.out _) E9.out
  have HKQ2 := Lib.hid (HKQa.out.frm E9.out hgne)
  have HOWN2 := Lib.hid (own_frmN HOWN.out EP2.out (fun k hk e => HNP.out (by rw [← e, ← hk]; exact HG.out)))
  clear z0 z1 z2 z3 z4 z5
  have hgG : ¬ some g = G := fun e => by
    obtain ⟨cs, hc⟩ := own_blk HOWN2.out (HG.out.trans e.symm)
    exact Blk.apart HKQ2.out hc (by decide) rfl
  have z0 : ∀ V, Frm (fun k => some k = G) W2 V → V.cell? ⟨g, 0, none⟩ = some (.int .i64 3) := fun V h => ((HKQ2.out.frm h hgG)).cell 0
  have z1 : ∀ V, Frm (fun k => some k = G) W2 V → V.cell? ⟨g, 1, none⟩ = some (.int .i64 s) := fun V h => ((HKQ2.out.frm h hgG)).cell 1
  have z2 : ∀ V, Frm (fun k => some k = G) W2 V → V.cell? ⟨g, 2, none⟩ = some (.int .i64 k) := fun V h => ((HKQ2.out.frm h hgG)).cell 2
  have z3 : ∀ V, Frm (fun k => some k = G) W2 V → V.cell? ⟨g, 3, none⟩ = some (.int .i64 i) := fun V h => ((HKQ2.out.frm h hgG)).cell 3
  have z4 : ∀ V, Frm (fun k => some k = G) W2 V → V.cell? ⟨g, 4, none⟩ = some (.int .i64 m) := fun V h => ((HKQ2.out.frm h hgG)).cell 4
  have z5 : ∀ V, Frm (fun k => some k = G) W2 V → V.cell? ⟨g, 5, none⟩ = some (.string d) := fun V h => ((HKQ2.out.frm h hgG)).cell 5
  have y0 : ∀ V, Frm (fun k => some k = G) W2 V → V.cell? ⟨P, 0, none⟩ = some (v) := fun V h => (KP2.out.frm h HNP.out).cell 0
  have Xe : Hid (Ext W2 W2.drew) := (Ext.refl _).drewR
  have E0g : Hid (Frm (fun k => some k = G) W2 W2.drew) := Frm.of_below Xe.out _
  refine rz_begin (fun k => some k = G) [15] (by kernel_rfl) ?_
  refine rz_take [13, 14, 15] (i := 0) (v := ?_) rfl (by kernel_rfl) (by kernel_rfl) (by kernel_rfl) (by kernel_rfl) (by kernel_rfl) (by kernel_rfl) (fun _ _ _ h => h) (by rfl) ?_ ?_
  rotate_left
  · intro W hW; have hW0 := Frm.tr E0g.out hW; clear hW; go_simp <;> with_reducible rfl
  try simp only [Act.put, List.setIfInBounds_toArray, List.set_cons_zero, List.set_cons_succ]
  refine rz_take [2, 3, 4, 12, 13, 14, 15] (i := 1) (v := ?_) rfl (by kernel_rfl) (by kernel_rfl) (by kernel_rfl) (by kernel_rfl) (by kernel_rfl) (by kernel_rfl) (fun _ _ _ h => h) (by rfl) ?_ ?_
  rotate_left
  · intro W hW; have hW0 := Frm.tr E0g.out hW; clear hW; go_simp <;> with_reducible rfl
  try simp only [Act.put, List.setIfInBounds_toArray, List.set_cons_zero, List.set_cons_succ]
  refine rz_take [3, 4, 12, 13, 14, 15] (i := 2) (v := ?_) rfl (by kernel_rfl) (by kernel_rfl) (by kernel_rfl) (by kernel_rfl) (by kernel_rfl) (by kernel_rfl) (fun _ _ _ h => h) (by rfl) ?_ ?_
  rotate_left
  · intro W hW; have hW0 := Frm.tr E0g.out hW; clear hW; go_simp <;> with_reducible rfl
  try simp only [Act.put, List.setIfInBounds_toArray, List.set_cons_zero, List.set_cons_succ]
  refine rz_take [4, 12, 13, 14, 15] (i := 3) (v := ?_) rfl (by kernel_rfl) (by kernel_rfl) (by kernel_rfl) (by kernel_rfl) (by kernel_rfl) (by kernel_rfl) (fun _ _ _ h => h) (by rfl) ?_ ?_
  rotate_left
  · intro W hW; have hW0 := Frm.tr E0g.out hW; clear hW; go_simp <;> with_reducible rfl
  try simp only [Act.put, List.setIfInBounds_toArray, List.set_cons_zero, List.set_cons_succ]
  refine rz_take [12, 13, 14, 15] (i := 4) (v := ?_) rfl (by kernel_rfl) (by kernel_rfl) (by kernel_rfl) (by kernel_rfl) (by kernel_rfl) (by kernel_rfl) (fun _ _ _ h => h) (by rfl) ?_ ?_
  rotate_left
  · intro W hW; have hW0 := Frm.tr E0g.out hW; clear hW; go_simp <;> with_reducible rfl
  try simp only [Act.put, List.setIfInBounds_toArray, List.set_cons_zero, List.set_cons_succ]
  refine rz_take [6, 10, 11, 12, 13, 14, 15] (i := 5) (v := ?_) rfl (by kernel_rfl) (by kernel_rfl) (by kernel_rfl) (by kernel_rfl) (by kernel_rfl) (by kernel_rfl) (fun _ _ _ h => h) (by rfl) ?_ ?_
  rotate_left
  · intro W hW; have hW0 := Frm.tr E0g.out hW; clear hW; go_simp <;> with_reducible rfl
  try simp only [Act.put, List.setIfInBounds_toArray, List.set_cons_zero, List.set_cons_succ]
  refine rz_take [10, 11, 12, 13, 14, 15] (i := 6) (v := ?_) rfl (by kernel_rfl) (by kernel_rfl) (by kernel_rfl) (by kernel_rfl) (by kernel_rfl) (by kernel_rfl) (fun _ _ _ h => h) (by rfl) ?_ ?_
  rotate_left
  · intro W hW; have hW0 := Frm.tr E0g.out hW; clear hW; go_simp <;> with_reducible rfl
  try simp only [Act.put, List.setIfInBounds_toArray, List.set_cons_zero, List.set_cons_succ]
  refine rz_take [8, 10, 11, 12, 13, 14, 15] (i := 7) (v := ?_) rfl (by kernel_rfl) (by kernel_rfl) (by kernel_rfl) (by kernel_rfl) (by kernel_rfl) (by kernel_rfl) (fun _ _ _ h => h) (by rfl) ?_ ?_
  rotate_left
  · intro W hW; have hW0 := Frm.tr E0g.out hW; clear hW; go_simp <;> with_reducible rfl
  try simp only [Act.put, List.setIfInBounds_toArray, List.set_cons_zero, List.set_cons_succ]
  refine rz_take [10, 11, 12, 13, 14, 15] (i := 8) (v := ?_) rfl (by kernel_rfl) (by kernel_rfl) (by kernel_rfl) (by kernel_rfl) (by kernel_rfl) (by kernel_rfl) (fun _ _ _ h => h) (by rfl) ?_ ?_
  rotate_left
  · intro W hW; have hW0 := Frm.tr E0g.out hW; clear hW; go_simp <;> with_reducible rfl
  try simp only [Act.put, List.setIfInBounds_toArray, List.set_cons_zero, List.set_cons_succ]
  refine rz_take [10, 11, 12, 13, 14, 15] (i := 9) (v := ?_) rfl (by kernel_rfl) (by kernel_rfl) (by kernel_rfl) (by kernel_rfl) (by kernel_rfl) (by kernel_rfl) (fun _ _ _ h => h) (by rfl) ?_ ?_
  rotate_left
  · intro W hW; have hW0 := Frm.tr E0g.out hW; clear hW; go_simp <;> with_reducible rfl
  try simp only [Act.put, List.setIfInBounds_toArray, List.set_cons_zero, List.set_cons_succ]
  refine rz_take [11, 12, 13, 14, 15] (i := 10) (v := ?_) rfl (by kernel_rfl) (by kernel_rfl) (by kernel_rfl) (by kernel_rfl) (by kernel_rfl) (by kernel_rfl) (fun _ _ _ h => h) (by rfl) ?_ ?_
  rotate_left
  · intro W hW; have hW0 := Frm.tr E0g.out hW; clear hW; go_simp <;> with_reducible rfl
  try simp only [Act.put, List.setIfInBounds_toArray, List.set_cons_zero, List.set_cons_succ]
  refine rz_call (i := 11) rfl (by kernel_rfl) (by rfl) (fun K hK => ?_)
  go_simp
  refine hK _ _ (Frm.of_alloc _ _ _) ?_; clear hK K
  obtain ⟨W3, hW3⟩ : ∃ W3, W3 = (W2.alloc (.cells #[.int .i64 3, .int .i64 s, .bool false, .int .i64 3, .int .i64 s, .int .i64 k, .int .i64 i, .int .i64 m, .string d, .int .i64 0, .int .i64 0, .string ⟨#[]⟩, .slice none 0 0, .int .i64 0] 50)).drew := ⟨_, rfl⟩
  have KR3 : Hid (Blk W3 W2.drew.heap.size 50 #[.int .i64 3, .int .i64 s, .bool false, .int .i64 3, .int .i64 s, .int .i64 k, .int .i64 i, .int .i64 m, .string d, .int .i64 0, .int .i64 0, .string ⟨#[]⟩, .slice none 0 0, .int .i64 0]) := by (show Blk _ _ _ _); rw [hW3]; exact Blk.new W2.drew _ _
  have X3 : Hid (Ext W2.drew W3) := by (show Ext _ _); rw [hW3]; exact Ext.alloc W2.drew _
  have E3 : Hid (Frm (fun k => some k = G) W2 W3) := Frm.tr E0g.out (Frm.of_below X3.out _)
  try rw [← hW3]
  clear hW3
  try simp only [Act.put, List.setIfInBounds_toArray, List.set_cons_zero, List.set_cons_succ]
  refine rz_call (i := 12) rfl (by kernel_rfl) (by rfl) (fun K hK => ?_)
  refine wp_append_wide (.tmp 49) (.tmp 56) 26 rfl base 50 _ 14 144 Try.underlying26 info_act rfl (by decide) (by decide) v L.length (flatA L) rfl (own_frmN HOWN2.out (Frm.of_below (Ext.trans Xe.out X3.out) (fun _ => False)) (fun _ _ h => h)) W2.drew.heap.size [.int .i64 3, .int .i64 s, .bool false, .int .i64 3, .int .i64 s, .int .i64 k, .int .i64 i, .int .i64 m, .string d, .int .i64 0, .int .i64 0, .string ⟨#[]⟩, .slice none 0 0, .int .i64 0] rfl rfl KR3.out (by intro y hy; simp at hy; rcases hy with rfl | rfl | rfl | rfl | rfl | rfl | rfl | rfl | rfl | rfl | rfl | rfl | rfl | rfl <;> rfl) HLN.out (Nat.le_trans HBS.out (Nat.le_trans (Frm.tr EP2.out (Frm.of_below Xe.out _)).size X3.out.size)) ?_
  intro v2 W4 oo gg bb
  obtain ⟨A2, cap2, hv2⟩ := own_shape oo
  subst hv2
  refine hK _ _ (Frm.of_grown gg (fun k hk => hk.trans HG.out)) ?_; clear hK K
  have O4 := Lib.hid oo
  have BB4 := Lib.hid bb
  have E4 : Hid (Frm (fun k => some k = G) W2 W4) := Frm.tr E3.out (Frm.of_grown gg (fun k hk => hk.trans HG.out))
  clear oo gg bb
  have KP4 : Hid (Blk W4 P 32 #[v, .int .i64 l0, .int .i64 l1, .int .i64 l2, .int .i64 s, .int .i64 (wq o0).c, .int .i64 (wq o0).s, .int .i64 (wq o0).k, .int .i64 (wq o0).i, .int .i64 (wq o0).m, .string (wq o0).d, .int .i64 (wq o1).c, .int .i64 (wq o1).s, .int .i64 (wq o1).k, .int .i64 (wq o1).i, .int .i64 (wq o1).m, .string (wq o1).d, .int .i64 (wq o2).c, .int .i64 (wq o2).s, .int .i64 (wq o2).k, .int .i64 (wq o2).i, .int .i64 (wq o2).m, .string (wq o2).d, .int .i64 3, .int .i64 s, .int .i64 k, .int .i64 i, .int .i64 m, .string d]) := KP2.out.frm E4.out (fun e => HNP.out e)
  try simp only [Act.put, List.setIfInBounds_toArray, List.set_cons_zero, List.set_cons_succ]
  refine rz_take [14, 15] (i := 13) (v := ?_) rfl (by kernel_rfl) (by kernel_rfl) (by kernel_rfl) (by kernel_rfl) (by kernel_rfl) (by kernel_rfl) (fun _ _ _ h => h) (by rfl) ?_ ?_
  rotate_left
  · intro W hW; have hW0 := Frm.tr E4.out hW; clear hW; go_simp <;> with_reducible rfl
  try simp only [Act.put, List.setIfInBounds_toArray, List.set_cons_zero, List.set_cons_succ]
  refine rz_take [15] (i := 14) (v := ?_) rfl (by kernel_rfl) (by kernel_rfl) (by kernel_rfl) (by kernel_rfl) (by kernel_rfl) (by kernel_rfl) (fun _ _ _ h => h) (by rfl) ?_ ?_
  rotate_left
  · intro W hW; have hW0 := Frm.tr E4.out hW; clear hW; go_simp <;> with_reducible rfl
  try simp only [Act.put, List.setIfInBounds_toArray, List.set_cons_zero, List.set_cons_succ]
  refine rz_last (i := 15) rfl (by kernel_rfl) (by rfl) (by rfl) (fun K hK => ?_)
  have q1 := KP4.out.frozen 0
  have r1 := KP4.out.cell 0
  simp at r1
  go_simp
  refine hK _ _ ?_; clear hK K q1 r1
  obtain ⟨W5, hW5⟩ : ∃ W5, W5 = W4.setCell ⟨P, 0, none⟩ (.slice A2 (L.length + 1) cap2) := ⟨_, rfl⟩
  have KP5 : Hid (Blk W5 P 32 #[.slice A2 (L.length + 1) cap2, .int .i64 l0, .int .i64 l1, .int .i64 l2, .int .i64 s, .int .i64 (wq o0).c, .int .i64 (wq o0).s, .int .i64 (wq o0).k, .int .i64 (wq o0).i, .int .i64 (wq o0).m, .string (wq o0).d, .int .i64 (wq o1).c, .int .i64 (wq o1).s, .int .i64 (wq o1).k, .int .i64 (wq o1).i, .int .i64 (wq o1).m, .string (wq o1).d, .int .i64 (wq o2).c, .int .i64 (wq o2).s, .int .i64 (wq o2).k, .int .i64 (wq o2).i, .int .i64 (wq o2).m, .string (wq o2).d, .int .i64 3, .int .i64 s, .int .i64 k, .int .i64 i, .int .i64 m, .string d]) := by (show Blk _ _ _ _); rw [hW5]; exact KP4.out.set 0 _
  have F5 : Hid (Frm (fun k => k = P) W4 W5) := by (show Frm _ _ _); rw [hW5]; exact Frm.of_set _ _ _ rfl
  try rw [← hW5]
  clear hW5
  try simp only [Act.put, List.setIfInBounds_toArray, List.set_cons_zero, List.set_cons_succ]
  refine rz_done (by kernel_rfl) ?_ _
  clear z0 z1 z2 z3 z4 z5 y0
  go_wp2_with fail
  try go_ret
  have hqq : ∀ k cs, Blk w k 3 cs → ¬ k = P := fun k cs h e => by
    subst e
    exact Blk.apart HKPw.out h (by decide) rfl
  have hqg : ∀ k cs, Blk w k 3 cs → ¬ some k = G := fun k cs h e => by
    obtain ⟨cs', hc⟩ := own_blk HOWNw.out (HG.out.trans e.symm)
    exact Blk.apart hc h (by decide) rfl
  have FA : Frm (Psel P G) w W5 := Frm.tr (EP2.out.mono (fun k hk => Or.inl hk)) (Frm.tr (E4.out.mono (fun k hk => Or.inr hk)) (F5.out.mono (fun k hk => Or.inl hk)))
  have hkeep : ∀ k cs, Blk w k 3 cs → Blk W5 k 3 cs := fun k cs h => h.frm FA (fun hh => by
    rcases hh with hh | hh
    · exact hqq k cs h hh
    · exact hqg k cs h hh)
  have O5 : W5.ownsRow base 50 14 (.slice A2 (L.length + 1) cap2) (L ++ [At.mk (Ac.mk 3 s false (Rqv.mk 3 s k i m d) Rpv.zero 0) none 0]).length (flatA (L ++ [At.mk (Ac.mk 3 s false (Rqv.mk 3 s k i m d) Rpv.zero 0) none 0])) := by
    rw [flatA_append, List.length_append]
    exact own_frmN O4.out F5.out (fun k hk e => own_blkne O4.out KP4.out (by decide) k hk e)
  refine hD.out _ _ ⟨rfl, _, ⟨HBP.out, .slice A2 (L.length + 1) cap2, l0, l1, l2, s, o0, o1, o2, some ⟨3, s, k, i, m, d⟩, L ++ [At.mk (Ac.mk 3 s false (Rqv.mk 3 s k i m d) Rpv.zero 0) none 0], KP5.out, ?_, ?_, O5, rfl, ?_, ?_⟩, FA, ?_⟩
  · show st.last.set 3 s = _
    rw [HLS.out]; rfl
  · show st.wait.set 3 (some ⟨3, s, k, i, m, d⟩) = _
    rw [HWS.out]; rfl
  · rw [List.map_append, HL.out]; rfl
  · intro t ht
    rw [List.mem_append, List.mem_singleton] at ht
    rcases ht with ht | rfl
    · exact (HIN.out t ht).of (fun k cs h => hkeep k cs h)
    · exact In.nil _
  · rcases BB4.out with h5 | h5
    · exact .inl (h5.trans HG.out)
    · exact .inr ⟨_, h5, Nat.le_trans EaX.out.size (Nat.le_trans E0f.out.size (Nat.le_trans F2.out.size (Nat.le_trans Xe.out.size X3.out.size)))⟩


end Go.Proofs.Ytnionfddejaalaa
