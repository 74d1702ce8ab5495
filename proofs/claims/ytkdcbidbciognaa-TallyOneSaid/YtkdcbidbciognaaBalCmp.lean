/-
  Walks of ballot.Cmp and of the reference's Cmp; the next ballot.
-/
import Derived.Test.YtkdcbidbciognaaBallot
import Derived.StillTailTactics
import Derived.Test.YtkdcbidbciognaaHeld
namespace Go.Proofs.Ytkdcbidbciognaa
set_option linter.unusedVariables false
set_option linter.unusedSimpArgs false
open Go.RowKit


set_option maxHeartbeats 2000000 in
theorem balCmp_any (r n r' n' : Int) (w : World) : Calls Try.prog 48 #[.agg #[.int .i64 r, .int .i64 n], .agg #[.int .i64 r', .int .i64 n']] w fun e w' => e = .returned (.int .i64 (cmpBal r n r' n')) ∧ Below w.heap.size w w' := by
  have HC : Hid (∀ (a b : Int) (W : World), Calls Try.prog 86 #[.int .i64 a, .int .i64 b] W fun e w' => e = .returned (.int .i64 (cmpI a b)) ∧ Ext W w') := fun a b W => (compare_any a b W).mono fun _ _ ⟨he, hw⟩ => ⟨he, hw ▸ Ext.refl _⟩
  have HO : Hid (∀ (x y : Int) (W : World), Calls Try.prog 85 #[.slice (some ⟨W.heap.size, 0, none⟩) 2 2] (W.alloc (.cells #[.int .i64 x, .int .i64 y] 3)) fun e w' => e = .returned (.int .i64 (orI [x, y])) ∧ Ext (W.alloc (.cells #[.int .i64 x, .int .i64 y] 3)) w') := fun x y W =>
    (or_any _ 2 [x, y] _ (by simp) (Sl.of_blk (Blk.new W 3 #[.int .i64 x, .int .i64 y]) (fun j v hj => by match j, hj with | 0, hj => (simp at hj; subst hj; rfl) | 1, hj => (simp at hj; subst hj; rfl)))).mono fun _ _ ⟨he, hw⟩ => ⟨he, hw ▸ Ext.refl _⟩
  have hcm := orI_cmp r n r' n'
  generalize cmpBal r n r' n' = c at *
  have HM := Lib.hid hcm
  clear hcm
  generalize hx : cmpI r r' = x at *
  generalize hy : cmpI n n' = y at *
  have HX : Hid (∀ W, Calls Try.prog 86 #[.int .i64 r, .int .i64 r'] W fun e w' => e = .returned (.int .i64 x) ∧ Ext W w') := fun W => by rw [← hx]; exact HC.out r r' W
  have HY : Hid (∀ W, Calls Try.prog 86 #[.int .i64 n, .int .i64 n'] W fun e w' => e = .returned (.int .i64 y) ∧ Ext W w') := fun W => by rw [← hy]; exact HC.out n n' W
  clear hx hy HC
  refine hide_post fun D hD => ?_
  obtain ⟨w0, hw0⟩ : ∃ w0, w0 = (w.alloc (.cells #[.int .i64 r, .int .i64 n] 23)).alloc (.cells #[.int .i64 r', .int .i64 n'] 23) := ⟨_, rfl⟩
  have hb0 : Below w.heap.size w w0 := by rw [hw0]; exact ((Below.refl _ _).alloc (Nat.le_refl _) _).alloc (by simp) _
  have k0 : Blk w0 w.heap.size 23 #[.int .i64 r, .int .i64 n] := by rw [hw0]; exact (Blk.new _ _ _).alloc _
  have k1 : Blk w0 (w.heap.size + 1) 23 #[.int .i64 r', .int .i64 n'] := by rw [hw0]; exact Blk.new' _ _ _ _ (by simp)
  have f0 : ∀ W, Ext w0 W → W.cell? ⟨w.heap.size, 0, none⟩ = some (.int .i64 r) := fun W h => (k0.stay h).cell 0
  have f1 : ∀ W, Ext w0 W → W.cell? ⟨w.heap.size, 1, none⟩ = some (.int .i64 n) := fun W h => (k0.stay h).cell 1
  have f2 : ∀ W, Ext w0 W → W.cell? ⟨w.heap.size + 1, 0, none⟩ = some (.int .i64 r') := fun W h => (k1.stay h).cell 0
  have f3 : ∀ W, Ext w0 W → W.cell? ⟨w.heap.size + 1, 1, none⟩ = some (.int .i64 n') := fun W h => (k1.stay h).cell 1
  clear k0 k1
  have HW0 := Lib.hid hw0
  have E0 : Hid (Ext w0 w0) := Ext.refl w0
  have G0 : Hid (∀ W, Ext w0 W → Below w.heap.size w W) := fun W h => Below.step hb0 h
  clear hw0 hb0
  go_enter Try.func48, Try.ntmps48
  go_wp2_with fail
  rw [← HW0.out]
  refine ext_begin (by kernel_rfl) ?_
  have E0d := Lib.hid (Ext.drewR E0.out)
  refine ext_take (i := 0) (v := ?_) rfl (by kernel_rfl) (by kernel_rfl) (by kernel_rfl) (fun _ _ _ h => h) (by rfl) ?_ ?_
  rotate_left
  · intro W hW; have hW0 := Ext.trans E0d.out hW; clear hW; go_simp <;> with_reducible rfl
  try simp only [Act.put, List.setIfInBounds_toArray, List.set_cons_zero, List.set_cons_succ]
  refine ext_take (i := 1) (v := ?_) rfl (by kernel_rfl) (by kernel_rfl) (by kernel_rfl) (fun _ _ _ h => h) (by rfl) ?_ ?_
  rotate_left
  · intro W hW; have hW0 := Ext.trans E0d.out hW; clear hW; go_simp <;> with_reducible rfl
  try simp only [Act.put, List.setIfInBounds_toArray, List.set_cons_zero, List.set_cons_succ]
  refine ext_take (i := 2) (v := ?_) rfl (by kernel_rfl) (by kernel_rfl) (by kernel_rfl) (fun _ _ _ h => h) (by rfl) ?_ ?_
  rotate_left
  · intro W hW; have hW0 := Ext.trans E0d.out hW; clear hW; go_simp <;> with_reducible rfl
  try simp only [Act.put, List.setIfInBounds_toArray, List.set_cons_zero, List.set_cons_succ]
  refine ext_take (i := 3) (v := ?_) rfl (by kernel_rfl) (by kernel_rfl) (by kernel_rfl) (fun _ _ _ h => h) (by rfl) ?_ ?_
  rotate_left
  · intro W hW; have hW0 := Ext.trans E0d.out hW; clear hW; go_simp <;> with_reducible rfl
  try simp only [Act.put, List.setIfInBounds_toArray, List.set_cons_zero, List.set_cons_succ]
  refine ext_take (i := 5) (v := ?_) rfl (by kernel_rfl) (by kernel_rfl) (by kernel_rfl) (fun _ _ _ h => h) (by rfl) ?_ ?_
  rotate_left
  · intro W hW; have hW0 := Ext.trans E0d.out hW; clear hW; go_simp <;> with_reducible rfl
  try simp only [Act.put, List.setIfInBounds_toArray, List.set_cons_zero, List.set_cons_succ]
  refine ext_take (i := 6) (v := ?_) rfl (by kernel_rfl) (by kernel_rfl) (by kernel_rfl) (fun _ _ _ h => h) (by rfl) ?_ ?_
  rotate_left
  · intro W hW; have hW0 := Ext.trans E0d.out hW; clear hW; go_simp <;> with_reducible rfl
  try simp only [Act.put, List.setIfInBounds_toArray, List.set_cons_zero, List.set_cons_succ]
  refine ext_take (i := 7) (v := ?_) rfl (by kernel_rfl) (by kernel_rfl) (by kernel_rfl) (fun _ _ _ h => h) (by rfl) ?_ ?_
  rotate_left
  · intro W hW; have hW0 := Ext.trans E0d.out hW; clear hW; go_simp <;> with_reducible rfl
  try simp only [Act.put, List.setIfInBounds_toArray, List.set_cons_zero, List.set_cons_succ]
  refine ext_take (i := 8) (v := ?_) rfl (by kernel_rfl) (by kernel_rfl) (by kernel_rfl) (fun _ _ _ h => h) (by rfl) ?_ ?_
  rotate_left
  · intro W hW; have hW0 := Ext.trans E0d.out hW; clear hW; go_simp <;> with_reducible rfl
  try simp only [Act.put, List.setIfInBounds_toArray, List.set_cons_zero, List.set_cons_succ]
  refine ext_call (i := 4) rfl (by kernel_rfl) (by rfl) (fun K hK => ?_)
  go_simp
  (go_at_call 86; (with_reducible refine (HX.out _).mono ?_); rintro e w2 ⟨rfl, hx⟩; refine hK _ _ hx ?_; clear hK)
  have Ew2 := Lib.hid (Ext.trans E0d.out hx)
  clear hx
  try simp only [Act.put, List.setIfInBounds_toArray, List.set_cons_zero, List.set_cons_succ]
  refine ext_call (i := 9) rfl (by kernel_rfl) (by rfl) (fun K hK => ?_)
  go_simp
  (go_at_call 86; (with_reducible refine (HY.out _).mono ?_); rintro e w3 ⟨rfl, hx⟩; refine hK _ _ hx ?_; clear hK)
  have Ew3 := Lib.hid (Ext.trans Ew2.out hx)
  clear hx
  try simp only [Act.put, List.setIfInBounds_toArray, List.set_cons_zero, List.set_cons_succ]
  refine ext_call (i := 10) rfl (by kernel_rfl) (by rfl) (fun K hK => ?_)
  go_simp
  refine hK _ _ (Ext.alloc _ _) ?_; clear hK
  have Ea := Lib.hid (Ext.trans Ew3.out (Ext.alloc _ (.cells #[.int .i64 x, .int .i64 y] 3)))
  try simp only [Act.put, List.setIfInBounds_toArray, List.set_cons_zero, List.set_cons_succ]
  refine ext_call (i := 11) rfl (by kernel_rfl) (by rfl) (fun K hK => ?_)
  go_simp
  (go_at_call 85; (with_reducible refine (HO.out x y _).mono ?_); rintro e w4 ⟨rfl, hx⟩; refine hK _ _ hx ?_; clear hK)
  have Ew4 := Lib.hid (Ext.trans Ea.out hx)
  clear hx
  try simp only [Act.put, List.setIfInBounds_toArray, List.set_cons_zero, List.set_cons_succ]
  refine ext_take (i := 12) (v := ?_) rfl (by kernel_rfl) (by kernel_rfl) (by kernel_rfl) (fun _ _ _ h => h) (by rfl) ?_ ?_
  rotate_left
  · intro W hW; have hW0 := Ext.trans Ew4.out hW; clear hW; go_simp <;> with_reducible rfl
  try simp only [Act.put, List.setIfInBounds_toArray, List.set_cons_zero, List.set_cons_succ]
  refine wpAnyH_done (by kernel_rfl) ?_ _
  go_wp2
  try go_ret
  exact hD.out _ _ ⟨ret_int HM.out, G0.out _ Ew4.out⟩

theorem refCmp_any (r n r' n' : Int) (w : World) : Calls Try.prog 34 #[.agg #[.int .i64 r, .int .i64 n], .agg #[.int .i64 r', .int .i64 n']] w fun e w' => e = .returned (.int .i64 (cmpBal r n r' n')) ∧ Below w.heap.size w w' := by
  generalize hc : cmpBal r n r' n' = c
  have HC := Lib.hid hc
  clear hc
  unfold cmpBal at HC
  have HB : Hid (∀ o o', Below w.heap.size w ((w.alloc o).alloc o')) := fun o o' => ((Below.refl _ _).alloc (Nat.le_refl _) _).alloc (by simp) _
  refine hide_post fun D hD => ?_
  have hcs : r < r' ∨ r' < r ∨ (r = r' ∧ n < n') ∨ (r = r' ∧ n' < n) ∨ (r = r' ∧ n = n') := by omega
  rcases hcs with h | h | ⟨rfl, h⟩ | ⟨rfl, h⟩ | ⟨rfl, rfl⟩
  · have HE : Hid (-1 = c) := by show _ = _; rw [← HC.out, if_pos h]
    have h1 : ¬ r = r' := by omega
    clear HC
    go_enter Try.func34, Try.ntmps34
    go_wp2
    try go_ret
    exact hD.out _ _ ⟨ret_int HE.out, HB.out _ _⟩
  · have HE : Hid (1 = c) := by show _ = _; rw [← HC.out, if_neg (by omega), if_pos h]
    have h1 : ¬ r = r' := by omega
    have h2 : ¬ r < r' := by omega
    have h3 : (r == r') = false := by simp [h1]
    clear HC
    go_enter Try.func34, Try.ntmps34
    go_wp2
    try go_ret
    exact hD.out _ _ ⟨ret_int HE.out, HB.out _ _⟩
  · have HE : Hid (-1 = c) := by show _ = _; rw [← HC.out, if_neg (by omega), if_neg (by omega), if_pos h]
    have h1 : ¬ n = n' := by omega
    have h2 : ¬ r < r := by omega
    clear HC
    go_enter Try.func34, Try.ntmps34
    go_wp2
    try go_ret
    exact hD.out _ _ ⟨ret_int HE.out, HB.out _ _⟩
  · have HE : Hid (1 = c) := by show _ = _; rw [← HC.out, if_neg (by omega), if_neg (by omega), if_neg (by omega), if_pos h]
    have h1 : ¬ n = n' := by omega
    have h2 : ¬ r < r := by omega
    have h3 : ¬ n < n' := by omega
    clear HC
    go_enter Try.func34, Try.ntmps34
    go_wp2
    try go_ret
    exact hD.out _ _ ⟨ret_int HE.out, HB.out _ _⟩
  · have HE : Hid (0 = c) := by show _ = _; rw [← HC.out, if_neg (by omega), if_neg (by omega), if_neg (by omega), if_neg (by omega)]
    clear HC
    go_enter Try.func34, Try.ntmps34
    go_wp2
    try go_ret
    exact hD.out _ _ ⟨ret_int HE.out, HB.out _ _⟩
end Go.Proofs.Ytkdcbidbciognaa
