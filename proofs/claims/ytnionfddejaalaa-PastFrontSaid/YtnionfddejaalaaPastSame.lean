/-
  Two acts that are the same (law 22).
-/
import Derived.Test.YtnionfddejaalaaPast
import Derived.Test.YtnionfddejaalaaReply
namespace Go.Proofs.Ytnionfddejaalaa
set_option linter.unusedVariables false
set_option linter.unusedSimpArgs false
open Go.RowKit Go.WideShapes

set_option maxRecDepth 8000 in
set_option maxHeartbeats 8000000 in
theorem pastSame_any (clx sqx : Int) (ansx : Bool) (cx sx kx ix mx : Int) (dx : ByteArray) (rcx rvx : Int) (rdx : ByteArray) (rlx : List Int) (atx : Int) (cly sqy : Int) (ansy : Bool) (cy sy ky iy my : Int) (dy : ByteArray) (rcy rvy : Int) (rdy : ByteArray) (rly : List Int) (aty : Int) (A B : Option Addr) (ca cb : Nat) (w : World) (h1 : rlx.length ≤ 9223372036854775807) (h2 : rly.length ≤ 9223372036854775807) (hs : Sl i64 w A rlx) (hs2 : Sl i64 w B rly) :
    Calls Try.prog 41 #[.agg #[.int .i64 clx, .int .i64 sqx, .bool ansx, .int .i64 cx, .int .i64 sx, .int .i64 kx, .int .i64 ix, .int .i64 mx, .string dx, .int .i64 rcx, .int .i64 rvx, .string rdx, .slice A rlx.length ca, .int .i64 atx], .agg #[.int .i64 cly, .int .i64 sqy, .bool ansy, .int .i64 cy, .int .i64 sy, .int .i64 ky, .int .i64 iy, .int .i64 my, .string dy, .int .i64 rcy, .int .i64 rvy, .string rdy, .slice B rly.length cb, .int .i64 aty]] w fun e w' => e = .returned (.bool (sameAc ⟨clx, sqx, ansx, ⟨cx, sx, kx, ix, mx, dx⟩, ⟨rcx, rvx, rdx, rlx⟩, atx⟩ ⟨cly, sqy, ansy, ⟨cy, sy, ky, iy, my, dy⟩, ⟨rcy, rvy, rdy, rly⟩, aty⟩)) ∧ Ext w w' := by
  generalize hr : sameAc ⟨clx, sqx, ansx, ⟨cx, sx, kx, ix, mx, dx⟩, ⟨rcx, rvx, rdx, rlx⟩, atx⟩ ⟨cly, sqy, ansy, ⟨cy, sy, ky, iy, my, dy⟩, ⟨rcy, rvy, rdy, rly⟩, aty⟩ = r
  have HR := Lib.hid hr
  clear hr
  refine hide_post fun D hD => ?_
  have HC : Hid (∀ W, Ext w W → Calls Try.prog 53 #[.agg #[.int .i64 rcx, .int .i64 rvx, .string rdx, .slice A rlx.length ca], .agg #[.int .i64 rcy, .int .i64 rvy, .string rdy, .slice B rly.length cb]] W fun e w' => e = .returned (.bool (decide (rcx = rcy ∧ rvx = rvy ∧ rdx = rdy ∧ rlx = rly))) ∧ Ext W w') := fun W h => sameReply_any rcx rvx rcy rvy rdx rdy A B rlx rly ca cb W h1 h2 (hs.stay h) (hs2.stay h)
  have HD : Hid (∀ o o' b, b = r → D (.returned (.bool b)) ((w.alloc o).alloc o')) := fun o o' b h => hD.out _ _ ⟨ret_bool h, Ext.trans (ext_al' _ _) (ext_al' _ _)⟩
  have HD2 : Hid (∀ W b, Ext w W → b = r → D (.returned (.bool b)) W) := fun W b hx h => hD.out _ _ ⟨ret_bool h, hx⟩
  have HX : Hid (∀ o o', Ext w ((w.alloc o).alloc o')) := fun o o' => Ext.trans (ext_al' _ _) (ext_al' _ _)
  clear hD hs hs2 h1 h2
  obtain ⟨NX, hNX⟩ : ∃ n, n = rlx.length := ⟨_, rfl⟩
  obtain ⟨NY, hNY⟩ : ∃ n, n = rly.length := ⟨_, rfl⟩
  rw [← hNX, ← hNY] at HC ⊢
  clear hNX hNY
  rcases Classical.em (clx = cly) with rfl | h1
  rotate_left
  · have hE : r = false := by rw [← HR.out]; unfold sameAc; exact decide_eq_false (by simp [h1])
    have HE := Lib.hid hE
    clear hE
    go_enter Try.func41, Try.ntmps41
    go_wp2
    try go_ret
    exact HD.out _ _ _ HE.out.symm
  rcases Classical.em (sqx = sqy) with rfl | h1
  rotate_left
  · have hE : r = false := by rw [← HR.out]; unfold sameAc; exact decide_eq_false (by simp [h1])
    have HE := Lib.hid hE
    clear hE
    go_enter Try.func41, Try.ntmps41
    go_wp2
    try go_ret
    exact HD.out _ _ _ HE.out.symm
  rcases Classical.em (ansx = ansy) with rfl | h1
  rotate_left
  · have hE : r = false := by rw [← HR.out]; unfold sameAc; exact decide_eq_false (by simp [h1])
    have HE := Lib.hid hE
    clear hE
    have hb : (ansx == ansy) = false := by simp [h1]
    go_enter Try.func41, Try.ntmps41
    go_wp2
    try go_ret
    exact HD.out _ _ _ HE.out.symm
  rcases Classical.em (cx = cy) with rfl | h1
  rotate_left
  · have hE : r = false := by rw [← HR.out]; unfold sameAc; exact decide_eq_false (by simp [h1])
    have HE := Lib.hid hE
    clear hE
    go_enter Try.func41, Try.ntmps41
    go_wp2
    try go_ret
    exact HD.out _ _ _ HE.out.symm
  rcases Classical.em (sx = sy) with rfl | h1
  rotate_left
  · have hE : r = false := by rw [← HR.out]; unfold sameAc; exact decide_eq_false (by simp [h1])
    have HE := Lib.hid hE
    clear hE
    go_enter Try.func41, Try.ntmps41
    go_wp2
    try go_ret
    exact HD.out _ _ _ HE.out.symm
  rcases Classical.em (kx = ky) with rfl | h1
  rotate_left
  · have hE : r = false := by rw [← HR.out]; unfold sameAc; exact decide_eq_false (by simp [h1])
    have HE := Lib.hid hE
    clear hE
    go_enter Try.func41, Try.ntmps41
    go_wp2
    try go_ret
    exact HD.out _ _ _ HE.out.symm
  rcases Classical.em (ix = iy) with rfl | h1
  rotate_left
  · have hE : r = false := by rw [← HR.out]; unfold sameAc; exact decide_eq_false (by simp [h1])
    have HE := Lib.hid hE
    clear hE
    go_enter Try.func41, Try.ntmps41
    go_wp2
    try go_ret
    exact HD.out _ _ _ HE.out.symm
  rcases Classical.em (mx = my) with rfl | h1
  rotate_left
  · have hE : r = false := by rw [← HR.out]; unfold sameAc; exact decide_eq_false (by simp [h1])
    have HE := Lib.hid hE
    clear hE
    go_enter Try.func41, Try.ntmps41
    go_wp2
    try go_ret
    exact HD.out _ _ _ HE.out.symm
  rcases Classical.em (dx = dy) with rfl | h1
  rotate_left
  · have hE : r = false := by rw [← HR.out]; unfold sameAc; exact decide_eq_false (by simp [h1])
    have HE := Lib.hid hE
    clear hE
    have hl2 : ¬ dx.toList = dy.toList := fun h => h1 (Go.WideShapes.bytes_inj (by rwa [ByteArray.toList_eq, ByteArray.toList_eq] at h))
    clear h1
    go_enter Try.func41, Try.ntmps41
    go_wp2
    try go_ret
    exact HD.out _ _ _ HE.out.symm
  rcases Classical.em (atx = aty) with rfl | h1
  rotate_left
  · have hE : r = false := by rw [← HR.out]; unfold sameAc; exact decide_eq_false (by simp [h1])
    have HE := Lib.hid hE
    clear hE
    go_enter Try.func41, Try.ntmps41
    go_wp2
    try go_ret
    exact HD.out _ _ _ HE.out.symm
  have hE : r = decide (rcx = rcy ∧ rvx = rvy ∧ rdx = rdy ∧ rlx = rly) := by rw [← HR.out]; unfold sameAc; simp
  have HE := Lib.hid hE
  clear hE
  generalize decide (rcx = rcy ∧ rvx = rvy ∧ rdx = rdy ∧ rlx = rly) = q at *
  go_enter Try.func41, Try.ntmps41
  go_wp2_with (go_at_call 53; (with_reducible refine (HC.out _ (HX.out _ _)).mono ?_); rintro e w1 ⟨rfl, hx⟩; have X1 : Hid (Ext w w1) := Ext.trans (HX.out _ _) hx; clear hx)
  try go_ret
  exact HD2.out _ _ X1.out HE.out.symm

set_option maxRecDepth 8000 in
set_option maxHeartbeats 8000000 in
theorem refSame_any (clx sqx : Int) (ansx : Bool) (cx sx kx ix mx : Int) (dx : ByteArray) (rcx rvx : Int) (rdx : ByteArray) (rlx : List Int) (atx : Int) (cly sqy : Int) (ansy : Bool) (cy sy ky iy my : Int) (dy : ByteArray) (rcy rvy : Int) (rdy : ByteArray) (rly : List Int) (aty : Int) (A B : Option Addr) (ca cb : Nat) (w : World) (h1 : rlx.length ≤ 9223372036854775807) (h2 : rly.length ≤ 9223372036854775807) (hs : Sl i64 w A rlx) (hs2 : Sl i64 w B rly) :
    Calls Try.prog 39 #[.agg #[.int .i64 clx, .int .i64 sqx, .bool ansx, .int .i64 cx, .int .i64 sx, .int .i64 kx, .int .i64 ix, .int .i64 mx, .string dx, .int .i64 rcx, .int .i64 rvx, .string rdx, .slice A rlx.length ca, .int .i64 atx], .agg #[.int .i64 cly, .int .i64 sqy, .bool ansy, .int .i64 cy, .int .i64 sy, .int .i64 ky, .int .i64 iy, .int .i64 my, .string dy, .int .i64 rcy, .int .i64 rvy, .string rdy, .slice B rly.length cb, .int .i64 aty]] w fun e w' => e = .returned (.bool (sameAc ⟨clx, sqx, ansx, ⟨cx, sx, kx, ix, mx, dx⟩, ⟨rcx, rvx, rdx, rlx⟩, atx⟩ ⟨cly, sqy, ansy, ⟨cy, sy, ky, iy, my, dy⟩, ⟨rcy, rvy, rdy, rly⟩, aty⟩)) ∧ Ext w w' := by
  generalize hr : sameAc ⟨clx, sqx, ansx, ⟨cx, sx, kx, ix, mx, dx⟩, ⟨rcx, rvx, rdx, rlx⟩, atx⟩ ⟨cly, sqy, ansy, ⟨cy, sy, ky, iy, my, dy⟩, ⟨rcy, rvy, rdy, rly⟩, aty⟩ = r
  have HR := Lib.hid hr
  clear hr
  refine hide_post fun D hD => ?_
  have HC : Hid (∀ W, Ext w W → Calls Try.prog 51 #[.agg #[.int .i64 rcx, .int .i64 rvx, .string rdx, .slice A rlx.length ca], .agg #[.int .i64 rcy, .int .i64 rvy, .string rdy, .slice B rly.length cb]] W fun e w' => e = .returned (.bool (decide (rcx = rcy ∧ rvx = rvy ∧ rdx = rdy ∧ rlx = rly))) ∧ Ext W w') := fun W h => refReply_any rcx rvx rcy rvy rdx rdy A B rlx rly ca cb W h1 h2 (hs.stay h) (hs2.stay h)
  have HD : Hid (∀ o o' b, b = r → D (.returned (.bool b)) ((w.alloc o).alloc o')) := fun o o' b h => hD.out _ _ ⟨ret_bool h, Ext.trans (ext_al' _ _) (ext_al' _ _)⟩
  have HD2 : Hid (∀ W b, Ext w W → b = r → D (.returned (.bool b)) W) := fun W b hx h => hD.out _ _ ⟨ret_bool h, hx⟩
  have HX : Hid (∀ o o', Ext w ((w.alloc o).alloc o')) := fun o o' => Ext.trans (ext_al' _ _) (ext_al' _ _)
  clear hD hs hs2 h1 h2
  obtain ⟨NX, hNX⟩ : ∃ n, n = rlx.length := ⟨_, rfl⟩
  obtain ⟨NY, hNY⟩ : ∃ n, n = rly.length := ⟨_, rfl⟩
  rw [← hNX, ← hNY] at HC ⊢
  clear hNX hNY
  rcases Classical.em (clx = cly) with rfl | h1
  rotate_left
  · have hE : r = false := by rw [← HR.out]; unfold sameAc; exact decide_eq_false (by simp [h1])
    have HE := Lib.hid hE
    clear hE
    go_enter Try.func39, Try.ntmps39
    go_wp2
    try go_ret
    exact HD.out _ _ _ HE.out.symm
  rcases Classical.em (sqx = sqy) with rfl | h1
  rotate_left
  · have hE : r = false := by rw [← HR.out]; unfold sameAc; exact decide_eq_false (by simp [h1])
    have HE := Lib.hid hE
    clear hE
    go_enter Try.func39, Try.ntmps39
    go_wp2
    try go_ret
    exact HD.out _ _ _ HE.out.symm
  rcases Classical.em (ansx = ansy) with rfl | h1
  rotate_left
  · have hE : r = false := by rw [← HR.out]; unfold sameAc; exact decide_eq_false (by simp [h1])
    have HE := Lib.hid hE
    clear hE
    have hb : (ansx == ansy) = false := by simp [h1]
    go_enter Try.func39, Try.ntmps39
    go_wp2
    try go_ret
    exact HD.out _ _ _ HE.out.symm
  rcases Classical.em (cx = cy) with rfl | h1
  rotate_left
  · have hE : r = false := by rw [← HR.out]; unfold sameAc; exact decide_eq_false (by simp [h1])
    have HE := Lib.hid hE
    clear hE
    go_enter Try.func39, Try.ntmps39
    go_wp2
    try go_ret
    exact HD.out _ _ _ HE.out.symm
  rcases Classical.em (sx = sy) with rfl | h1
  rotate_left
  · have hE : r = false := by rw [← HR.out]; unfold sameAc; exact decide_eq_false (by simp [h1])
    have HE := Lib.hid hE
    clear hE
    go_enter Try.func39, Try.ntmps39
    go_wp2
    try go_ret
    exact HD.out _ _ _ HE.out.symm
  rcases Classical.em (kx = ky) with rfl | h1
  rotate_left
  · have hE : r = false := by rw [← HR.out]; unfold sameAc; exact decide_eq_false (by simp [h1])
    have HE := Lib.hid hE
    clear hE
    go_enter Try.func39, Try.ntmps39
    go_wp2
    try go_ret
    exact HD.out _ _ _ HE.out.symm
  rcases Classical.em (ix = iy) with rfl | h1
  rotate_left
  · have hE : r = false := by rw [← HR.out]; unfold sameAc; exact decide_eq_false (by simp [h1])
    have HE := Lib.hid hE
    clear hE
    go_enter Try.func39, Try.ntmps39
    go_wp2
    try go_ret
    exact HD.out _ _ _ HE.out.symm
  rcases Classical.em (mx = my) with rfl | h1
  rotate_left
  · have hE : r = false := by rw [← HR.out]; unfold sameAc; exact decide_eq_false (by simp [h1])
    have HE := Lib.hid hE
    clear hE
    go_enter Try.func39, Try.ntmps39
    go_wp2
    try go_ret
    exact HD.out _ _ _ HE.out.symm
  rcases Classical.em (dx = dy) with rfl | h1
  rotate_left
  · have hE : r = false := by rw [← HR.out]; unfold sameAc; exact decide_eq_false (by simp [h1])
    have HE := Lib.hid hE
    clear hE
    have hl2 : ¬ dx.toList = dy.toList := fun h => h1 (Go.WideShapes.bytes_inj (by rwa [ByteArray.toList_eq, ByteArray.toList_eq] at h))
    clear h1
    go_enter Try.func39, Try.ntmps39
    go_wp2
    try go_ret
    exact HD.out _ _ _ HE.out.symm
  have HQ : Hid (decide (rcx = rcy ∧ rvx = rvy ∧ rdx = rdy ∧ rlx = rly) = false → r = false) := fun h => by rw [← HR.out]; unfold sameAc; rw [decide_eq_false_iff_not] at h ⊢; simp [h]
  have HT : Hid (decide (rcx = rcy ∧ rvx = rvy ∧ rdx = rdy ∧ rlx = rly) = true → r = decide (atx = aty)) := fun h => by rw [← HR.out]; unfold sameAc; rw [decide_eq_true_eq] at h; simp [h]
  generalize decide (rcx = rcy ∧ rvx = rvy ∧ rdx = rdy ∧ rlx = rly) = q at *
  cases q with
  | false =>
    have HE := Lib.hid (HQ.out rfl)
    clear HQ HT
    go_enter Try.func39, Try.ntmps39
    go_wp2_with (go_at_call 51; (with_reducible refine (HC.out _ (HX.out _ _)).mono ?_); rintro e w1 ⟨rfl, hx⟩; have X1 : Hid (Ext w w1) := Ext.trans (HX.out _ _) hx; clear hx)
    try go_ret
    exact HD2.out _ _ X1.out HE.out.symm
  | true =>
    rcases Classical.em (atx = aty) with rfl | h1
    · have HE := Lib.hid (HT.out rfl)
      clear HQ HT
      have KX : Hid (∀ o, Blk ((w.alloc (.cells #[.int .i64 clx, .int .i64 sqx, .bool ansx, .int .i64 cx, .int .i64 sx, .int .i64 kx, .int .i64 ix, .int .i64 mx, .string dx, .int .i64 rcx, .int .i64 rvx, .string rdx, .slice A NX ca, .int .i64 atx] 50)).alloc o) w.heap.size 50 #[.int .i64 clx, .int .i64 sqx, .bool ansx, .int .i64 cx, .int .i64 sx, .int .i64 kx, .int .i64 ix, .int .i64 mx, .string dx, .int .i64 rcx, .int .i64 rvx, .string rdx, .slice A NX ca, .int .i64 atx]) := fun o => (Blk.new _ _ _).alloc _
      have KY : Hid (∀ o, Blk ((w.alloc o).alloc (.cells #[.int .i64 clx, .int .i64 sqx, .bool ansx, .int .i64 cx, .int .i64 sx, .int .i64 kx, .int .i64 ix, .int .i64 mx, .string dx, .int .i64 rcy, .int .i64 rvy, .string rdy, .slice B NY cb, .int .i64 atx] 50)) (w.heap.size + 1) 50 #[.int .i64 clx, .int .i64 sqx, .bool ansx, .int .i64 cx, .int .i64 sx, .int .i64 kx, .int .i64 ix, .int .i64 mx, .string dx, .int .i64 rcy, .int .i64 rvy, .string rdy, .slice B NY cb, .int .i64 atx]) := fun o => Blk.new' _ _ _ _ (by simp)
      go_enter Try.func39, Try.ntmps39
      go_wp2_with (go_at_call 51; (with_reducible refine (HC.out _ (HX.out _ _)).mono ?_); rintro e w1 ⟨rfl, hx⟩; have X1 : Hid (Ext w w1) := Ext.trans (HX.out _ _) hx; have c13 : w1.cell? ⟨w.heap.size, 13, none⟩ = some (.int .i64 atx) := ((KX.out _).stay hx).cell 13; have d13 : w1.cell? ⟨w.heap.size + 1, 13, none⟩ = some (.int .i64 atx) := ((KY.out _).stay hx).cell 13; clear hx)
      try go_ret
      exact HD2.out _ _ X1.out (by rw [HE.out]; simp )
    · have HE := Lib.hid (HT.out rfl)
      clear HQ HT
      have KX : Hid (∀ o, Blk ((w.alloc (.cells #[.int .i64 clx, .int .i64 sqx, .bool ansx, .int .i64 cx, .int .i64 sx, .int .i64 kx, .int .i64 ix, .int .i64 mx, .string dx, .int .i64 rcx, .int .i64 rvx, .string rdx, .slice A NX ca, .int .i64 atx] 50)).alloc o) w.heap.size 50 #[.int .i64 clx, .int .i64 sqx, .bool ansx, .int .i64 cx, .int .i64 sx, .int .i64 kx, .int .i64 ix, .int .i64 mx, .string dx, .int .i64 rcx, .int .i64 rvx, .string rdx, .slice A NX ca, .int .i64 atx]) := fun o => (Blk.new _ _ _).alloc _
      have KY : Hid (∀ o, Blk ((w.alloc o).alloc (.cells #[.int .i64 clx, .int .i64 sqx, .bool ansx, .int .i64 cx, .int .i64 sx, .int .i64 kx, .int .i64 ix, .int .i64 mx, .string dx, .int .i64 rcy, .int .i64 rvy, .string rdy, .slice B NY cb, .int .i64 aty] 50)) (w.heap.size + 1) 50 #[.int .i64 clx, .int .i64 sqx, .bool ansx, .int .i64 cx, .int .i64 sx, .int .i64 kx, .int .i64 ix, .int .i64 mx, .string dx, .int .i64 rcy, .int .i64 rvy, .string rdy, .slice B NY cb, .int .i64 aty]) := fun o => Blk.new' _ _ _ _ (by simp)
      go_enter Try.func39, Try.ntmps39
      go_wp2_with (go_at_call 51; (with_reducible refine (HC.out _ (HX.out _ _)).mono ?_); rintro e w1 ⟨rfl, hx⟩; have X1 : Hid (Ext w w1) := Ext.trans (HX.out _ _) hx; have c13 : w1.cell? ⟨w.heap.size, 13, none⟩ = some (.int .i64 atx) := ((KX.out _).stay hx).cell 13; have d13 : w1.cell? ⟨w.heap.size + 1, 13, none⟩ = some (.int .i64 aty) := ((KY.out _).stay hx).cell 13; clear hx)
      try go_ret
      exact HD2.out _ _ X1.out (by rw [HE.out]; simp [h1])

end Go.Proofs.Ytnionfddejaalaa
