/-
  Answer of package past (law 22).
-/
import Derived.Test.YtnionfddejaalaaPastAsk
import Derived.Test.YtnionfddejaalaaCloneBig
import Derived.Deep.Cut
namespace Go.Proofs.Ytnionfddejaalaa
set_option linter.unusedVariables false
set_option linter.unusedSimpArgs false
open Go.RowKit

set_option maxRecDepth 4000 in
set_option maxHeartbeats 8000000 in
theorem ans_lo (base P : Nat) (G : Option Nat) (st : Ps) (sq rc rv : Int) (rd : ByteArray) (rA : Option Addr) (rcap : Nat) (rl : List Int) (at_ : Int) (c : Int) (w : World) (H : PAt w base P G st) (h1 : at_ < 0) :
    Calls Try.prog 13 #[.pointer (some ⟨P, 0, none⟩), .int .i64 c, .int .i64 sq, .agg #[.int .i64 rc, .int .i64 rv, .string rd, .slice rA rl.length rcap], .int .i64 at_] w fun e w' => e = .returned (.int .i64 1) ∧ Ext w w' := by
  refine hide_post fun D hD => ?_
  generalize hN : rl.length = N at *
  obtain ⟨w0, hw0⟩ : ∃ w0, w0 = w.alloc (.cells #[.int .i64 rc, .int .i64 rv, .string rd, .slice rA N rcap] 35) := ⟨_, rfl⟩
  have hb0 : Ext w w0 := by rw [hw0]; exact Ext.alloc _ _
  have HW := Lib.hid hw0
  have X0 : Hid (Ext w w0) := hb0
  have XA : Hid (Ext w (w.alloc (.cells #[.int .i64 rc, .int .i64 rv, .string rd, .slice rA N rcap] 35))) := Ext.alloc _ _
  clear H hb0 hw0 hN
  go_enter Try.func13, Try.ntmps13
  go_wp2_with fail
  try go_ret
  exact hD.out _ _ ⟨rfl, XA.out⟩

set_option maxRecDepth 4000 in
set_option maxHeartbeats 8000000 in
theorem ans_hi (base P : Nat) (G : Option Nat) (st : Ps) (sq rc rv : Int) (rd : ByteArray) (rA : Option Addr) (rcap : Nat) (rl : List Int) (at_ : Int) (c : Int) (w : World) (H : PAt w base P G st) (h0 : ¬ at_ < 0) (h1 : 1073741824 < at_) :
    Calls Try.prog 13 #[.pointer (some ⟨P, 0, none⟩), .int .i64 c, .int .i64 sq, .agg #[.int .i64 rc, .int .i64 rv, .string rd, .slice rA rl.length rcap], .int .i64 at_] w fun e w' => e = .returned (.int .i64 1) ∧ Ext w w' := by
  refine hide_post fun D hD => ?_
  generalize hN : rl.length = N at *
  obtain ⟨w0, hw0⟩ : ∃ w0, w0 = w.alloc (.cells #[.int .i64 rc, .int .i64 rv, .string rd, .slice rA N rcap] 35) := ⟨_, rfl⟩
  have hb0 : Ext w w0 := by rw [hw0]; exact Ext.alloc _ _
  have HW := Lib.hid hw0
  have X0 : Hid (Ext w w0) := hb0
  have XA : Hid (Ext w (w.alloc (.cells #[.int .i64 rc, .int .i64 rv, .string rd, .slice rA N rcap] 35))) := Ext.alloc _ _
  clear H hb0 hw0 hN
  go_enter Try.func13, Try.ntmps13
  go_wp2_with fail
  try go_ret
  exact hD.out _ _ ⟨rfl, XA.out⟩

set_option maxRecDepth 4000 in
set_option maxHeartbeats 8000000 in
theorem ans_clo (base P : Nat) (G : Option Nat) (st : Ps) (sq rc rv : Int) (rd : ByteArray) (rA : Option Addr) (rcap : Nat) (rl : List Int) (at_ : Int) (c : Int) (w : World) (H : PAt w base P G st) (h0 : ¬ at_ < 0) (h1 : ¬ 1073741824 < at_) (h2 : c < 0) :
    Calls Try.prog 13 #[.pointer (some ⟨P, 0, none⟩), .int .i64 c, .int .i64 sq, .agg #[.int .i64 rc, .int .i64 rv, .string rd, .slice rA rl.length rcap], .int .i64 at_] w fun e w' => e = .returned (.int .i64 4) ∧ Ext w w' := by
  refine hide_post fun D hD => ?_
  generalize hN : rl.length = N at *
  obtain ⟨w0, hw0⟩ : ∃ w0, w0 = w.alloc (.cells #[.int .i64 rc, .int .i64 rv, .string rd, .slice rA N rcap] 35) := ⟨_, rfl⟩
  have hb0 : Ext w w0 := by rw [hw0]; exact Ext.alloc _ _
  have HW := Lib.hid hw0
  have X0 : Hid (Ext w w0) := hb0
  have XA : Hid (Ext w (w.alloc (.cells #[.int .i64 rc, .int .i64 rv, .string rd, .slice rA N rcap] 35))) := Ext.alloc _ _
  clear H hb0 hw0 hN
  go_enter Try.func13, Try.ntmps13
  go_wp2_with fail
  try go_ret
  exact hD.out _ _ ⟨rfl, XA.out⟩

set_option maxRecDepth 4000 in
set_option maxHeartbeats 8000000 in
theorem ans_chi (base P : Nat) (G : Option Nat) (st : Ps) (sq rc rv : Int) (rd : ByteArray) (rA : Option Addr) (rcap : Nat) (rl : List Int) (at_ : Int) (c : Int) (w : World) (H : PAt w base P G st) (h0 : ¬ at_ < 0) (h1 : ¬ 1073741824 < at_) (h2 : ¬ c < 0) (h3 : 4 ≤ c) :
    Calls Try.prog 13 #[.pointer (some ⟨P, 0, none⟩), .int .i64 c, .int .i64 sq, .agg #[.int .i64 rc, .int .i64 rv, .string rd, .slice rA rl.length rcap], .int .i64 at_] w fun e w' => e = .returned (.int .i64 4) ∧ Ext w w' := by
  refine hide_post fun D hD => ?_
  generalize hN : rl.length = N at *
  obtain ⟨w0, hw0⟩ : ∃ w0, w0 = w.alloc (.cells #[.int .i64 rc, .int .i64 rv, .string rd, .slice rA N rcap] 35) := ⟨_, rfl⟩
  have hb0 : Ext w w0 := by rw [hw0]; exact Ext.alloc _ _
  have HW := Lib.hid hw0
  have X0 : Hid (Ext w w0) := hb0
  have XA : Hid (Ext w (w.alloc (.cells #[.int .i64 rc, .int .i64 rv, .string rd, .slice rA N rcap] 35))) := Ext.alloc _ _
  clear H hb0 hw0 hN
  go_enter Try.func13, Try.ntmps13
  go_wp2_with fail
  try go_ret
  exact hD.out _ _ ⟨rfl, XA.out⟩

set_option maxRecDepth 4000 in
set_option maxHeartbeats 8000000 in
theorem ans_none0 (base P : Nat) (G : Option Nat) (st : Ps) (sq rc rv : Int) (rd : ByteArray) (rA : Option Addr) (rcap : Nat) (rl : List Int) (at_ : Int) (w : World) (H : PAt w base P G st) (h0 : ¬ at_ < 0) (h1 : ¬ 1073741824 < at_) (hs : st.w 0 = none) :
    Calls Try.prog 13 #[.pointer (some ⟨P, 0, none⟩), .int .i64 0, .int .i64 sq, .agg #[.int .i64 rc, .int .i64 rv, .string rd, .slice rA rl.length rcap], .int .i64 at_] w fun e w' => e = .returned (.int .i64 4) ∧ Ext w w' := by
  refine hide_post fun D hD => ?_
  generalize hN : rl.length = N at *
  obtain ⟨hbP, v, l0, l1, l2, l3, p0, p1, p2, p3, o0, o1, o2, o3, L, kP, hl, hw, hwt, hown, hG, hL, hin⟩ := H
  have ho : o0 = none := by unfold Ps.w at hs; rw [hw] at hs; exact hs
  obtain rfl : p0 = .pointer none := by have h5 := hwt.1; rw [ho] at h5; exact h5
  obtain ⟨w0, hw0⟩ : ∃ w0, w0 = w.alloc (.cells #[.int .i64 rc, .int .i64 rv, .string rd, .slice rA N rcap] 35) := ⟨_, rfl⟩
  have hb0 : Ext w w0 := by rw [hw0]; exact Ext.alloc _ _
  have HW := Lib.hid hw0
  have X0 : Hid (Ext w w0) := hb0
  have XA : Hid (Ext w (w.alloc (.cells #[.int .i64 rc, .int .i64 rv, .string rd, .slice rA N rcap] 35))) := Ext.alloc _ _
  have a5 : ∀ o, (w.alloc o).cell? ⟨P, 5, none⟩ = some (.pointer none) := fun o => (kP.stay (Ext.alloc w o)).cell 5
  have hplt := kP.lt
  clear hb0 hw0 kP hl hw hwt hown hG hL hin hs ho hbP hN
  go_enter Try.func13, Try.ntmps13
  go_wp2_with fail
  try go_ret
  exact hD.out _ _ ⟨rfl, XA.out⟩

set_option maxRecDepth 4000 in
set_option maxHeartbeats 8000000 in
theorem ans_other0 (base P : Nat) (G : Option Nat) (st : Ps) (sq rc rv : Int) (rd : ByteArray) (rA : Option Addr) (rcap : Nat) (rl : List Int) (at_ : Int) (xc xs xk xi xm : Int) (xd : ByteArray) (w : World) (H : PAt w base P G st) (h0 : ¬ at_ < 0) (h1 : ¬ 1073741824 < at_) (hs : st.w 0 = some ⟨xc, xs, xk, xi, xm, xd⟩) (hq : ¬ xs = sq) :
    Calls Try.prog 13 #[.pointer (some ⟨P, 0, none⟩), .int .i64 0, .int .i64 sq, .agg #[.int .i64 rc, .int .i64 rv, .string rd, .slice rA rl.length rcap], .int .i64 at_] w fun e w' => e = .returned (.int .i64 4) ∧ Ext w w' := by
  refine hide_post fun D hD => ?_
  generalize hN : rl.length = N at *
  obtain ⟨hbP, v, l0, l1, l2, l3, p0, p1, p2, p3, o0, o1, o2, o3, L, kP, hl, hw, hwt, hown, hG, hL, hin⟩ := H
  have ho : o0 = some ⟨xc, xs, xk, xi, xm, xd⟩ := by unfold Ps.w at hs; rw [hw] at hs; exact hs
  have h5 := hwt.1
  rw [ho] at h5
  obtain ⟨gq, rfl, hgq⟩ := h5
  obtain ⟨w0, hw0⟩ : ∃ w0, w0 = w.alloc (.cells #[.int .i64 rc, .int .i64 rv, .string rd, .slice rA N rcap] 35) := ⟨_, rfl⟩
  have hb0 : Ext w w0 := by rw [hw0]; exact Ext.alloc _ _
  have HW := Lib.hid hw0
  have X0 : Hid (Ext w w0) := hb0
  have XA : Hid (Ext w (w.alloc (.cells #[.int .i64 rc, .int .i64 rv, .string rd, .slice rA N rcap] 35))) := Ext.alloc _ _
  have a5 : ∀ o, (w.alloc o).cell? ⟨P, 5, none⟩ = some (.pointer (some ⟨gq, 0, none⟩)) := fun o => (kP.stay (Ext.alloc w o)).cell 5
  have b1 : ∀ o, (w.alloc o).cell? ⟨gq, 1, none⟩ = some (.int .i64 xs) := fun o => (hgq.stay (Ext.alloc w o)).cell 1
  have hplt := kP.lt
  have hglt := hgq.lt
  clear hb0 hw0 kP hl hw hwt hown hG hL hin hs ho hbP hN hgq
  go_enter Try.func13, Try.ntmps13
  go_wp2_with fail
  try go_ret
  exact hD.out _ _ ⟨rfl, XA.out⟩

set_option maxRecDepth 4000 in
set_option maxHeartbeats 8000000 in
theorem ans_ok0 (base P : Nat) (G : Option Nat) (st : Ps) (sq rc rv : Int) (rd : ByteArray) (rA : Option Addr) (rcap : Nat) (rl : List Int) (at_ : Int) (xc xk xi xm : Int) (xd : ByteArray) (w : World) (H : PAt w base P G st) (h0 : ¬ at_ < 0) (h1 : ¬ 1073741824 < at_) (hs : st.w 0 = some ⟨xc, sq, xk, xi, xm, xd⟩) (hn : st.acts.length ≤ 1000000) (hrl : rl.length ≤ 17592186043904) (hr : Sl i64 w rA rl) :
    Calls Try.prog 13 #[.pointer (some ⟨P, 0, none⟩), .int .i64 0, .int .i64 sq, .agg #[.int .i64 rc, .int .i64 rv, .string rd, .slice rA rl.length rcap], .int .i64 at_] w fun e w' => e = .returned (.int .i64 0) ∧ POut w w' base P G (ansS st 0 sq ⟨rc, rv, rd, rl⟩ at_) := by
  refine hide_post fun D hD => ?_
  generalize hN : rl.length = N at *
  have hlt := H.lt
  obtain ⟨hbP, v, l0, l1, l2, l3, p0, p1, p2, p3, o0, o1, o2, o3, L, kP, hl, hw, hwt, hown, hG, hL, hin⟩ := H
  have ho : o0 = some ⟨xc, sq, xk, xi, xm, xd⟩ := by unfold Ps.w at hs; rw [hw] at hs; exact hs
  have h5 := hwt.1
  rw [ho] at h5
  obtain ⟨gq, rfl, hgq⟩ := h5
  obtain ⟨w0, hw0⟩ : ∃ w0, w0 = w.alloc (.cells #[.int .i64 rc, .int .i64 rv, .string rd, .slice rA N rcap] 35) := ⟨_, rfl⟩
  have hb0 : Ext w w0 := by rw [hw0]; exact Ext.alloc _ _
  have HW := Lib.hid hw0
  have X0 : Hid (Ext w w0) := hb0
  have XA : Hid (Ext w (w.alloc (.cells #[.int .i64 rc, .int .i64 rv, .string rd, .slice rA N rcap] 35))) := Ext.alloc _ _
  have KR : Hid (Blk w0 w.heap.size 35 #[.int .i64 rc, .int .i64 rv, .string rd, .slice rA N rcap]) := by show Blk _ _ _ _; rw [hw0]; exact Blk.new _ _ _
  have CC : Hid (Calls Try.prog 38 #[.slice rA N rcap] w0 fun e w' => ∃ A c, e = .returned (.slice A N c) ∧ In w' A c rl ∧ Ext w0 w') := by
    have h6 := cloneI_big rA rcap rl w0 (by omega) (hr.stay hb0)
    rw [hN] at h6
    refine h6.mono ?_
    rintro e w' ⟨v, he, ho, hx⟩
    rw [← hN] at ho
    obtain ⟨A, c, rfl, hin⟩ := In.own ho
    rw [hN] at he
    exact ⟨A, c, he, hin, hx⟩
  have hLn : L.length ≤ 1000000000 := by have h5 := congrArg List.length hL; rw [List.length_map] at h5; omega
  have HLN : Hid (L.length ≤ 1000000000) := hLn
  have HNN := Lib.hid hN
  have HKPw := Lib.hid kP
  have HOWNw := Lib.hid hown
  have HKG := Lib.hid hgq
  have HWT := Lib.hid hwt
  have HG : Hid (v.ownBlock = G) := hG
  have HL := Lib.hid hL
  have HIN := Lib.hid hin
  have HBP : Hid (base ≤ P) := hbP
  have HBS : Hid (base ≤ w.heap.size) := Nat.le_trans hbP (Nat.le_of_lt hlt)
  have HLS := Lib.hid hl
  have HWS := Lib.hid hw
  have HOS : Hid (st.w 0 = some ⟨xc, sq, xk, xi, xm, xd⟩) := hs
  have HNP : Hid (¬ some P = G) := fun e => by
    obtain ⟨cs, hc⟩ := own_blk hown (hG.trans e.symm)
    exact Blk.apart kP hc (by decide) rfl
  obtain ⟨g, hg⟩ : ∃ g, g = w.heap.size := ⟨_, rfl⟩
  have HGG := Lib.hid hg
  have hgP : ¬ g = P := by omega
  have a5 : ∀ o, (w.alloc o).cell? ⟨P, 5, none⟩ = some (.pointer (some ⟨gq, 0, none⟩)) := fun o => (kP.stay (Ext.alloc w o)).cell 5
  have b1 : ∀ o, (w.alloc o).cell? ⟨gq, 1, none⟩ = some (.int .i64 sq) := fun o => (hgq.stay (Ext.alloc w o)).cell 1
  have hglt := hgq.lt
  have r3 : ∀ x y z u, (w.alloc (.cells #[x, y, z, u] 35)).cell? ⟨w.heap.size, 3, none⟩ = some u := fun x y z u => (Blk.new w _ _).cell 3
  have hplt := hlt
  clear hb0 hw0 kP hl hw hwt hown hG hL hin hs ho hlt hbP hLn hgq hn hrl hr hN hg
  go_enter Try.func13, Try.ntmps13
  go_upto_region 6 with (go_at_call 38; rw [← HW.out]; (with_reducible refine CC.out.mono ?_); rintro e w1 ⟨A2, c2, rfl, hin, hx⟩; have IN1 := Lib.hid hin; have X1 := Lib.hid hx; have KR1 := Lib.hid (KR.out.stay hx); have q3 := KR1.out.cell 3; have f3 := KR1.out.frozen 3; simp at q3; clear hin hx)
  rw [← HGG.out]
  obtain ⟨W2, hW2⟩ : ∃ W2, W2 = w1.setCell ⟨g, 3, none⟩ (.slice A2 N c2) := ⟨_, rfl⟩
  have HK1 : Hid (Blk w1 g 35 #[.int .i64 rc, .int .i64 rv, .string rd, .slice rA N rcap]) := by (show Blk _ _ _ _); rw [HGG.out]; exact KR1.out
  have KR2 : Hid (Blk W2 g 35 #[.int .i64 rc, .int .i64 rv, .string rd, .slice A2 N c2]) := by (show Blk _ _ _ _); rw [hW2]; exact HK1.out.set 3 _
  have FG : Hid (Frm (fun k => k = g) w1 W2) := by (show Frm _ _ _); rw [hW2]; exact Frm.of_set _ _ _ rfl
  have X2 : Hid (Ext w W2) := Frm.step (Ext.trans X0.out X1.out) FG.out (Ext.trans X0.out X1.out).size (by rintro k rfl; rw [HGG.out]; exact Nat.le_refl _)
  have IN2 : Hid (In W2 A2 c2 rl) := IN1.out.of (fun k cs h => h.frm FG.out (Blk.apart h HK1.out (by decide)))
  have KP2 := Lib.hid (HKPw.out.stay X2.out)
  have KG2 := Lib.hid (HKG.out.stay X2.out)
  have HOWN2 := Lib.hid (own_frmN HOWNw.out (Frm.of_below X2.out (fun _ => False)) (fun _ _ h => h))
  try rw [← hW2]
  clear hW2 q3 f3 a5 b1 r3
  have hnG : ∀ k t cs, t ≠ 50 → Blk W2 k t cs → ¬ some k = G := fun k t cs ht h e => by
    obtain ⟨cs', hc⟩ := own_blk HOWN2.out (HG.out.trans e.symm)
    exact Blk.apart h hc ht rfl
  have z0 : ∀ V, Frm (fun k => some k = G) W2 V → V.cell? ⟨g, 0, none⟩ = some (.int .i64 rc) := fun V h => ((KR2.out.frm h (hnG _ _ _ (by decide) KR2.out))).cell 0
  have z1 : ∀ V, Frm (fun k => some k = G) W2 V → V.cell? ⟨g, 1, none⟩ = some (.int .i64 rv) := fun V h => ((KR2.out.frm h (hnG _ _ _ (by decide) KR2.out))).cell 1
  have z2 : ∀ V, Frm (fun k => some k = G) W2 V → V.cell? ⟨g, 2, none⟩ = some (.string rd) := fun V h => ((KR2.out.frm h (hnG _ _ _ (by decide) KR2.out))).cell 2
  have z3 : ∀ V, Frm (fun k => some k = G) W2 V → V.cell? ⟨g, 3, none⟩ = some (.slice A2 N c2) := fun V h => ((KR2.out.frm h (hnG _ _ _ (by decide) KR2.out))).cell 3
  have x0 : ∀ V, Frm (fun k => some k = G) W2 V → V.cell? ⟨gq, 0, none⟩ = some (.int .i64 xc) := fun V h => ((KG2.out.frm h (hnG _ _ _ (by decide) KG2.out))).cell 0
  have x1 : ∀ V, Frm (fun k => some k = G) W2 V → V.cell? ⟨gq, 1, none⟩ = some (.int .i64 sq) := fun V h => ((KG2.out.frm h (hnG _ _ _ (by decide) KG2.out))).cell 1
  have x2 : ∀ V, Frm (fun k => some k = G) W2 V → V.cell? ⟨gq, 2, none⟩ = some (.int .i64 xk) := fun V h => ((KG2.out.frm h (hnG _ _ _ (by decide) KG2.out))).cell 2
  have x3 : ∀ V, Frm (fun k => some k = G) W2 V → V.cell? ⟨gq, 3, none⟩ = some (.int .i64 xi) := fun V h => ((KG2.out.frm h (hnG _ _ _ (by decide) KG2.out))).cell 3
  have x4 : ∀ V, Frm (fun k => some k = G) W2 V → V.cell? ⟨gq, 4, none⟩ = some (.int .i64 xm) := fun V h => ((KG2.out.frm h (hnG _ _ _ (by decide) KG2.out))).cell 4
  have x5 : ∀ V, Frm (fun k => some k = G) W2 V → V.cell? ⟨gq, 5, none⟩ = some (.string xd) := fun V h => ((KG2.out.frm h (hnG _ _ _ (by decide) KG2.out))).cell 5
  have y0 : ∀ V, Frm (fun k => some k = G) W2 V → V.cell? ⟨P, 0, none⟩ = some (v) := fun V h => ((KP2.out.frm h HNP.out)).cell 0
  have y5 : ∀ V, Frm (fun k => some k = G) W2 V → V.cell? ⟨P, 5, none⟩ = some (.pointer (some ⟨gq, 0, none⟩)) := fun V h => ((KP2.out.frm h HNP.out)).cell 5
  have Xe : Hid (Ext W2 W2.drew) := (Ext.refl _).drewR
  have E0g : Hid (Frm (fun k => some k = G) W2 W2.drew) := Frm.of_below Xe.out _
  refine rz_begin (fun k => some k = G) [22] (by kernel_rfl) ?_
  refine rz_take [20, 21, 22] (i := 0) (v := ?_) rfl (by kernel_rfl) (by kernel_rfl) (by kernel_rfl) (by kernel_rfl) (by kernel_rfl) (by kernel_rfl) (fun _ _ _ h => h) (by rfl) ?_ ?_
  rotate_left
  · intro W hW; have hW0 := Frm.tr E0g.out hW; clear hW; go_simp <;> with_reducible rfl
  try simp only [Act.put, List.setIfInBounds_toArray, List.set_cons_zero, List.set_cons_succ]
  refine rz_take [2, 3, 4, 19, 20, 21, 22] (i := 1) (v := ?_) rfl (by kernel_rfl) (by kernel_rfl) (by kernel_rfl) (by kernel_rfl) (by kernel_rfl) (by kernel_rfl) (fun _ _ _ h => h) (by rfl) ?_ ?_
  rotate_left
  · intro W hW; have hW0 := Frm.tr E0g.out hW; clear hW; go_simp <;> with_reducible rfl
  try simp only [Act.put, List.setIfInBounds_toArray, List.set_cons_zero, List.set_cons_succ]
  refine rz_take [3, 4, 19, 20, 21, 22] (i := 2) (v := ?_) rfl (by kernel_rfl) (by kernel_rfl) (by kernel_rfl) (by kernel_rfl) (by kernel_rfl) (by kernel_rfl) (fun _ _ _ h => h) (by rfl) ?_ ?_
  rotate_left
  · intro W hW; have hW0 := Frm.tr E0g.out hW; clear hW; go_simp <;> with_reducible rfl
  try simp only [Act.put, List.setIfInBounds_toArray, List.set_cons_zero, List.set_cons_succ]
  refine rz_take [4, 19, 20, 21, 22] (i := 3) (v := ?_) rfl (by kernel_rfl) (by kernel_rfl) (by kernel_rfl) (by kernel_rfl) (by kernel_rfl) (by kernel_rfl) (fun _ _ _ h => h) (by rfl) ?_ ?_
  rotate_left
  · intro W hW; have hW0 := Frm.tr E0g.out hW; clear hW; go_simp <;> with_reducible rfl
  try simp only [Act.put, List.setIfInBounds_toArray, List.set_cons_zero, List.set_cons_succ]
  refine rz_take [19, 20, 21, 22] (i := 4) (v := ?_) rfl (by kernel_rfl) (by kernel_rfl) (by kernel_rfl) (by kernel_rfl) (by kernel_rfl) (by kernel_rfl) (fun _ _ _ h => h) (by rfl) ?_ ?_
  rotate_left
  · intro W hW; have hW0 := Frm.tr E0g.out hW; clear hW; go_simp <;> with_reducible rfl
  try simp only [Act.put, List.setIfInBounds_toArray, List.set_cons_zero, List.set_cons_succ]
  refine rz_take [17, 18, 19, 20, 21, 22] (i := 5) (v := ?_) rfl (by kernel_rfl) (by kernel_rfl) (by kernel_rfl) (by kernel_rfl) (by kernel_rfl) (by kernel_rfl) (fun _ _ _ h => h) (by rfl) ?_ ?_
  rotate_left
  · intro W hW; have hW0 := Frm.tr E0g.out hW; clear hW; go_simp <;> with_reducible rfl
  try simp only [Act.put, List.setIfInBounds_toArray, List.set_cons_zero, List.set_cons_succ]
  refine rz_take [17, 18, 19, 20, 21, 22] (i := 6) (v := ?_) rfl (by kernel_rfl) (by kernel_rfl) (by kernel_rfl) (by kernel_rfl) (by kernel_rfl) (by kernel_rfl) (fun _ _ _ h => h) (by rfl) ?_ ?_
  rotate_left
  · intro W hW; have hW0 := Frm.tr E0g.out hW; clear hW; go_simp <;> with_reducible rfl
  try simp only [Act.put, List.setIfInBounds_toArray, List.set_cons_zero, List.set_cons_succ]
  refine rz_take [9, 10, 11, 12, 13, 14, 17, 18, 19, 20, 21, 22] (i := 7) (v := ?_) rfl (by kernel_rfl) (by kernel_rfl) (by kernel_rfl) (by kernel_rfl) (by kernel_rfl) (by kernel_rfl) (fun _ _ _ h => h) (by rfl) ?_ ?_
  rotate_left
  · intro W hW; have hW0 := Frm.tr E0g.out hW; clear hW; go_simp <;> with_reducible rfl
  try simp only [Act.put, List.setIfInBounds_toArray, List.set_cons_zero, List.set_cons_succ]
  refine rz_take [11, 12, 13, 14, 17, 18, 19, 20, 21, 22] (i := 8) (v := ?_) rfl (by kernel_rfl) (by kernel_rfl) (by kernel_rfl) (by kernel_rfl) (by kernel_rfl) (by kernel_rfl) (fun _ _ _ h => h) (by rfl) ?_ ?_
  rotate_left
  · intro W hW; have hW0 := Frm.tr E0g.out hW; clear hW; go_simp <;> with_reducible rfl
  try simp only [Act.put, List.setIfInBounds_toArray, List.set_cons_zero, List.set_cons_succ]
  refine rz_take [10, 11, 12, 13, 14, 17, 18, 19, 20, 21, 22] (i := 9) (v := ?_) rfl (by kernel_rfl) (by kernel_rfl) (by kernel_rfl) (by kernel_rfl) (by kernel_rfl) (by kernel_rfl) (fun _ _ _ h => h) (by rfl) ?_ ?_
  rotate_left
  · intro W hW; have hW0 := Frm.tr E0g.out hW; clear hW; go_simp <;> with_reducible rfl
  try simp only [Act.put, List.setIfInBounds_toArray, List.set_cons_zero, List.set_cons_succ]
  refine rz_take [11, 12, 13, 14, 17, 18, 19, 20, 21, 22] (i := 10) (v := ?_) rfl (by kernel_rfl) (by kernel_rfl) (by kernel_rfl) (by kernel_rfl) (by kernel_rfl) (by kernel_rfl) (fun _ _ _ h => h) (by rfl) ?_ ?_
  rotate_left
  · intro W hW; have hW0 := Frm.tr E0g.out hW; clear hW; go_simp <;> with_reducible rfl
  try simp only [Act.put, List.setIfInBounds_toArray, List.set_cons_zero, List.set_cons_succ]
  refine rz_take [12, 13, 14, 17, 18, 19, 20, 21, 22] (i := 11) (v := ?_) rfl (by kernel_rfl) (by kernel_rfl) (by kernel_rfl) (by kernel_rfl) (by kernel_rfl) (by kernel_rfl) (fun _ _ _ h => h) (by rfl) ?_ ?_
  rotate_left
  · intro W hW; have hW0 := Frm.tr E0g.out hW; clear hW; go_simp <;> with_reducible rfl
  try simp only [Act.put, List.setIfInBounds_toArray, List.set_cons_zero, List.set_cons_succ]
  refine rz_take [13, 14, 17, 18, 19, 20, 21, 22] (i := 12) (v := ?_) rfl (by kernel_rfl) (by kernel_rfl) (by kernel_rfl) (by kernel_rfl) (by kernel_rfl) (by kernel_rfl) (fun _ _ _ h => h) (by rfl) ?_ ?_
  rotate_left
  · intro W hW; have hW0 := Frm.tr E0g.out hW; clear hW; go_simp <;> with_reducible rfl
  try simp only [Act.put, List.setIfInBounds_toArray, List.set_cons_zero, List.set_cons_succ]
  refine rz_take [14, 17, 18, 19, 20, 21, 22] (i := 13) (v := ?_) rfl (by kernel_rfl) (by kernel_rfl) (by kernel_rfl) (by kernel_rfl) (by kernel_rfl) (by kernel_rfl) (fun _ _ _ h => h) (by rfl) ?_ ?_
  rotate_left
  · intro W hW; have hW0 := Frm.tr E0g.out hW; clear hW; go_simp <;> with_reducible rfl
  try simp only [Act.put, List.setIfInBounds_toArray, List.set_cons_zero, List.set_cons_succ]
  refine rz_take [17, 18, 19, 20, 21, 22] (i := 14) (v := ?_) rfl (by kernel_rfl) (by kernel_rfl) (by kernel_rfl) (by kernel_rfl) (by kernel_rfl) (by kernel_rfl) (fun _ _ _ h => h) (by rfl) ?_ ?_
  rotate_left
  · intro W hW; have hW0 := Frm.tr E0g.out hW; clear hW; go_simp <;> with_reducible rfl
  try simp only [Act.put, List.setIfInBounds_toArray, List.set_cons_zero, List.set_cons_succ]
  refine rz_take [17, 18, 19, 20, 21, 22] (i := 15) (v := ?_) rfl (by kernel_rfl) (by kernel_rfl) (by kernel_rfl) (by kernel_rfl) (by kernel_rfl) (by kernel_rfl) (fun _ _ _ h => h) (by rfl) ?_ ?_
  rotate_left
  · intro W hW; have hW0 := Frm.tr E0g.out hW; clear hW; go_simp <;> with_reducible rfl
  try simp only [Act.put, List.setIfInBounds_toArray, List.set_cons_zero, List.set_cons_succ]
  refine rz_take [17, 18, 19, 20, 21, 22] (i := 16) (v := ?_) rfl (by kernel_rfl) (by kernel_rfl) (by kernel_rfl) (by kernel_rfl) (by kernel_rfl) (by kernel_rfl) (fun _ _ _ h => h) (by rfl) ?_ ?_
  rotate_left
  · intro W hW; have hW0 := Frm.tr E0g.out hW; clear hW; go_simp <;> with_reducible rfl
  try simp only [Act.put, List.setIfInBounds_toArray, List.set_cons_zero, List.set_cons_succ]
  refine rz_take [18, 19, 20, 21, 22] (i := 17) (v := ?_) rfl (by kernel_rfl) (by kernel_rfl) (by kernel_rfl) (by kernel_rfl) (by kernel_rfl) (by kernel_rfl) (fun _ _ _ h => h) (by rfl) ?_ ?_
  rotate_left
  · intro W hW; have hW0 := Frm.tr E0g.out hW; clear hW; go_simp <;> with_reducible rfl
  try simp only [Act.put, List.setIfInBounds_toArray, List.set_cons_zero, List.set_cons_succ]
  refine rz_call (i := 18) rfl (by kernel_rfl) (by rfl) (fun K hK => ?_)
  go_simp
  refine hK _ _ (Frm.of_alloc _ _ _) ?_; clear hK K
  obtain ⟨W3, hW3⟩ : ∃ W3, W3 = (W2.alloc (.cells #[.int .i64 0, .int .i64 sq, .bool true, .int .i64 xc, .int .i64 sq, .int .i64 xk, .int .i64 xi, .int .i64 xm, .string xd, .int .i64 rc, .int .i64 rv, .string rd, .slice A2 N c2, .int .i64 at_] 50)).drew := ⟨_, rfl⟩
  have KR3 : Hid (Blk W3 W2.drew.heap.size 50 #[.int .i64 0, .int .i64 sq, .bool true, .int .i64 xc, .int .i64 sq, .int .i64 xk, .int .i64 xi, .int .i64 xm, .string xd, .int .i64 rc, .int .i64 rv, .string rd, .slice A2 N c2, .int .i64 at_]) := by (show Blk _ _ _ _); rw [hW3]; exact Blk.new W2.drew _ _
  have X3 : Hid (Ext W2.drew W3) := by (show Ext _ _); rw [hW3]; exact Ext.alloc W2.drew _
  have E3 : Hid (Frm (fun k => some k = G) W2 W3) := Frm.tr E0g.out (Frm.of_below X3.out _)
  try rw [← hW3]
  clear hW3
  try simp only [Act.put, List.setIfInBounds_toArray, List.set_cons_zero, List.set_cons_succ]
  refine rz_call (i := 19) rfl (by kernel_rfl) (by rfl) (fun K hK => ?_)
  refine wp_append_wide (.tmp 57) (.tmp 71) 26 rfl base 50 _ 14 144 Try.underlying26 info_act rfl (by decide) (by decide) v L.length (flatA L) rfl (own_frmN HOWN2.out (Frm.of_below (Ext.trans Xe.out X3.out) (fun _ => False)) (fun _ _ h => h)) W2.drew.heap.size [.int .i64 0, .int .i64 sq, .bool true, .int .i64 xc, .int .i64 sq, .int .i64 xk, .int .i64 xi, .int .i64 xm, .string xd, .int .i64 rc, .int .i64 rv, .string rd, .slice A2 N c2, .int .i64 at_] rfl rfl KR3.out (by intro y hy; simp at hy; rcases hy with rfl | rfl | rfl | rfl | rfl | rfl | rfl | rfl | rfl | rfl | rfl | rfl | rfl | rfl <;> rfl) HLN.out (Nat.le_trans HBS.out (Nat.le_trans X2.out.size (Nat.le_trans Xe.out.size X3.out.size))) ?_
  intro v2 W4 oo gg bb
  obtain ⟨A3, cap3, hv3⟩ := own_shape oo
  subst hv3
  refine hK _ _ (Frm.of_grown gg (fun k hk => hk.trans HG.out)) ?_; clear hK K
  have O4 := Lib.hid oo
  have BB4 := Lib.hid bb
  have E4 : Hid (Frm (fun k => some k = G) W2 W4) := Frm.tr E3.out (Frm.of_grown gg (fun k hk => hk.trans HG.out))
  clear oo gg bb
  have KP4 : Hid (Blk W4 P 77 #[v, .int .i64 l0, .int .i64 l1, .int .i64 l2, .int .i64 l3, .pointer (some ⟨gq, 0, none⟩), p1, p2, p3]) := KP2.out.frm E4.out (fun e => HNP.out e)
  try simp only [Act.put, List.setIfInBounds_toArray, List.set_cons_zero, List.set_cons_succ]
  refine rz_take [21, 22] (i := 20) (v := ?_) rfl (by kernel_rfl) (by kernel_rfl) (by kernel_rfl) (by kernel_rfl) (by kernel_rfl) (by kernel_rfl) (fun _ _ _ h => h) (by rfl) ?_ ?_
  rotate_left
  · intro W hW; have hW0 := Frm.tr E4.out hW; clear hW; go_simp <;> with_reducible rfl
  try simp only [Act.put, List.setIfInBounds_toArray, List.set_cons_zero, List.set_cons_succ]
  refine rz_take [22] (i := 21) (v := ?_) rfl (by kernel_rfl) (by kernel_rfl) (by kernel_rfl) (by kernel_rfl) (by kernel_rfl) (by kernel_rfl) (fun _ _ _ h => h) (by rfl) ?_ ?_
  rotate_left
  · intro W hW; have hW0 := Frm.tr E4.out hW; clear hW; go_simp <;> with_reducible rfl
  try simp only [Act.put, List.setIfInBounds_toArray, List.set_cons_zero, List.set_cons_succ]
  refine rz_last (i := 22) rfl (by kernel_rfl) (by rfl) (by rfl) (fun K hK => ?_)
  have q1 := KP4.out.frozen 0
  have r1 := KP4.out.cell 0
  simp at r1
  go_simp
  refine hK _ _ ?_; clear hK K q1 r1
  obtain ⟨W5, hW5⟩ : ∃ W5, W5 = W4.setCell ⟨P, 0, none⟩ (.slice A3 (L.length + 1) cap3) := ⟨_, rfl⟩
  have KP5 : Hid (Blk W5 P 77 #[.slice A3 (L.length + 1) cap3, .int .i64 l0, .int .i64 l1, .int .i64 l2, .int .i64 l3, .pointer (some ⟨gq, 0, none⟩), p1, p2, p3]) := by (show Blk _ _ _ _); rw [hW5]; exact KP4.out.set 0 _
  have F5 : Hid (Frm (fun k => k = P) W4 W5) := by (show Frm _ _ _); rw [hW5]; exact Frm.of_set _ _ _ rfl
  try rw [← hW5]
  clear hW5
  try simp only [Act.put, List.setIfInBounds_toArray, List.set_cons_zero, List.set_cons_succ]
  refine rz_done (by kernel_rfl) ?_ _
  clear z0 z1 z2 z3 x0 x1 x2 x3 x4 x5 y0 y5
  have k5 := KP5.out.cell 5
  have g5 := KP5.out.frozen 5
  simp at k5
  go_wp2_with fail
  try go_ret
  obtain ⟨W6, hW6⟩ : ∃ W6, W6 = W5.setCell ⟨P, 5, none⟩ (.pointer none) := ⟨_, rfl⟩
  have KP6 : Blk W6 P 77 #[.slice A3 (L.length + 1) cap3, .int .i64 l0, .int .i64 l1, .int .i64 l2, .int .i64 l3, .pointer none, p1, p2, p3] := by rw [hW6]; exact KP5.out.set 5 _
  have F6 : Frm (fun k => k = P) W4 W6 := by rw [hW6]; exact Frm.tr F5.out (Frm.of_set _ _ _ rfl)
  try rw [← hW6]
  clear hW6
  have FA2 : Frm (Psel P G) W2 W6 := Frm.tr (E4.out.mono (fun k hk => Or.inr hk)) (F6.mono (fun k hk => Or.inl hk))
  have FA : Frm (Psel P G) w W6 := Frm.tr (Frm.of_below X2.out _) FA2
  have hkeep : ∀ k t cs, t = 29 ∨ t = 3 → Blk W2 k t cs → Blk W6 k t cs := fun k t cs ht h => h.frm FA2 (fun hh => by
    have ht2 : t ≠ 50 ∧ t ≠ 77 := by rcases ht with rfl | rfl <;> exact ⟨by decide, by decide⟩
    rcases hh with hh | hh
    · subst hh; exact Blk.apart h KP2.out ht2.2 rfl
    · exact hnG k t cs ht2.1 h hh)
  have hq5 : ∀ g cs, Blk w g 29 cs → Blk W6 g 29 cs := fun k cs h => hkeep k _ cs (.inl rfl) (h.stay X2.out)
  obtain ⟨h40, h41, h42, h43⟩ := HWT.out
  have O5 : W6.ownsRow base 50 14 (.slice A3 (L.length + 1) cap3) (L ++ [At.mk (Ac.mk 0 sq true (Rqv.mk xc sq xk xi xm xd) (Rpv.mk rc rv rd rl) at_) A2 c2]).length (flatA (L ++ [At.mk (Ac.mk 0 sq true (Rqv.mk xc sq xk xi xm xd) (Rpv.mk rc rv rd rl) at_) A2 c2])) := by
    rw [flatA_append, List.length_append]
    have h7 := own_frmN O4.out F6 (fun k hk e => own_blkne O4.out KP4.out (by decide) k hk e)
    have h8 : flatA [At.mk (Ac.mk 0 sq true (Rqv.mk xc sq xk xi xm xd) (Rpv.mk rc rv rd rl) at_) A2 c2] = [.int .i64 0, .int .i64 sq, .bool true, .int .i64 xc, .int .i64 sq, .int .i64 xk, .int .i64 xi, .int .i64 xm, .string xd, .int .i64 rc, .int .i64 rv, .string rd, .slice A2 N c2, .int .i64 at_] := by simp [flatA, acRow, HNN.out]
    rw [h8]
    exact h7
  refine hD.out _ _ ⟨rfl, _, ⟨HBP.out, .slice A3 (L.length + 1) cap3, l0, l1, l2, l3, .pointer none, p1, p2, p3, none, o1, o2, o3, L ++ [At.mk (Ac.mk 0 sq true (Rqv.mk xc sq xk xi xm xd) (Rpv.mk rc rv rd rl) at_) A2 c2], KP6, HLS.out, ?_, ⟨rfl, h41.of hq5, h42.of hq5, h43.of hq5⟩, O5, rfl, ?_, ?_⟩, FA, ?_⟩
  · show st.wait.set 0 none = _
    rw [HWS.out]; rfl
  · show _ = st.acts ++ [(⟨0, sq, true, (st.w 0).getD ⟨0, 0, 0, 0, 0, ⟨#[]⟩⟩, ⟨rc, rv, rd, rl⟩, at_⟩ : Ac)]
    rw [HOS.out, List.map_append, HL.out]; rfl
  · intro t ht
    rw [List.mem_append, List.mem_singleton] at ht
    rcases ht with ht | rfl
    · exact ((HIN.out t ht).stay X2.out).of (fun k cs h => hkeep k _ cs (.inr rfl) h)
    · exact IN2.out.of (fun k cs h => hkeep k _ cs (.inr rfl) h)
  · rcases BB4.out with h5 | h5
    · exact .inl (h5.trans HG.out)
    · exact .inr ⟨_, h5, Nat.le_trans X2.out.size (Nat.le_trans Xe.out.size X3.out.size)⟩

set_option maxRecDepth 4000 in
set_option maxHeartbeats 8000000 in
theorem ans_none1 (base P : Nat) (G : Option Nat) (st : Ps) (sq rc rv : Int) (rd : ByteArray) (rA : Option Addr) (rcap : Nat) (rl : List Int) (at_ : Int) (w : World) (H : PAt w base P G st) (h0 : ¬ at_ < 0) (h1 : ¬ 1073741824 < at_) (hs : st.w 1 = none) :
    Calls Try.prog 13 #[.pointer (some ⟨P, 0, none⟩), .int .i64 1, .int .i64 sq, .agg #[.int .i64 rc, .int .i64 rv, .string rd, .slice rA rl.length rcap], .int .i64 at_] w fun e w' => e = .returned (.int .i64 4) ∧ Ext w w' := by
  refine hide_post fun D hD => ?_
  generalize hN : rl.length = N at *
  obtain ⟨hbP, v, l0, l1, l2, l3, p0, p1, p2, p3, o0, o1, o2, o3, L, kP, hl, hw, hwt, hown, hG, hL, hin⟩ := H
  have ho : o1 = none := by unfold Ps.w at hs; rw [hw] at hs; exact hs
  obtain rfl : p1 = .pointer none := by have h5 := hwt.2.1; rw [ho] at h5; exact h5
  obtain ⟨w0, hw0⟩ : ∃ w0, w0 = w.alloc (.cells #[.int .i64 rc, .int .i64 rv, .string rd, .slice rA N rcap] 35) := ⟨_, rfl⟩
  have hb0 : Ext w w0 := by rw [hw0]; exact Ext.alloc _ _
  have HW := Lib.hid hw0
  have X0 : Hid (Ext w w0) := hb0
  have XA : Hid (Ext w (w.alloc (.cells #[.int .i64 rc, .int .i64 rv, .string rd, .slice rA N rcap] 35))) := Ext.alloc _ _
  have a6 : ∀ o, (w.alloc o).cell? ⟨P, 6, none⟩ = some (.pointer none) := fun o => (kP.stay (Ext.alloc w o)).cell 6
  have hplt := kP.lt
  clear hb0 hw0 kP hl hw hwt hown hG hL hin hs ho hbP hN
  go_enter Try.func13, Try.ntmps13
  go_wp2_with fail
  try go_ret
  exact hD.out _ _ ⟨rfl, XA.out⟩

set_option maxRecDepth 4000 in
set_option maxHeartbeats 8000000 in
theorem ans_other1 (base P : Nat) (G : Option Nat) (st : Ps) (sq rc rv : Int) (rd : ByteArray) (rA : Option Addr) (rcap : Nat) (rl : List Int) (at_ : Int) (xc xs xk xi xm : Int) (xd : ByteArray) (w : World) (H : PAt w base P G st) (h0 : ¬ at_ < 0) (h1 : ¬ 1073741824 < at_) (hs : st.w 1 = some ⟨xc, xs, xk, xi, xm, xd⟩) (hq : ¬ xs = sq) :
    Calls Try.prog 13 #[.pointer (some ⟨P, 0, none⟩), .int .i64 1, .int .i64 sq, .agg #[.int .i64 rc, .int .i64 rv, .string rd, .slice rA rl.length rcap], .int .i64 at_] w fun e w' => e = .returned (.int .i64 4) ∧ Ext w w' := by
  refine hide_post fun D hD => ?_
  generalize hN : rl.length = N at *
  obtain ⟨hbP, v, l0, l1, l2, l3, p0, p1, p2, p3, o0, o1, o2, o3, L, kP, hl, hw, hwt, hown, hG, hL, hin⟩ := H
  have ho : o1 = some ⟨xc, xs, xk, xi, xm, xd⟩ := by unfold Ps.w at hs; rw [hw] at hs; exact hs
  have h5 := hwt.2.1
  rw [ho] at h5
  obtain ⟨gq, rfl, hgq⟩ := h5
  obtain ⟨w0, hw0⟩ : ∃ w0, w0 = w.alloc (.cells #[.int .i64 rc, .int .i64 rv, .string rd, .slice rA N rcap] 35) := ⟨_, rfl⟩
  have hb0 : Ext w w0 := by rw [hw0]; exact Ext.alloc _ _
  have HW := Lib.hid hw0
  have X0 : Hid (Ext w w0) := hb0
  have XA : Hid (Ext w (w.alloc (.cells #[.int .i64 rc, .int .i64 rv, .string rd, .slice rA N rcap] 35))) := Ext.alloc _ _
  have a6 : ∀ o, (w.alloc o).cell? ⟨P, 6, none⟩ = some (.pointer (some ⟨gq, 0, none⟩)) := fun o => (kP.stay (Ext.alloc w o)).cell 6
  have b1 : ∀ o, (w.alloc o).cell? ⟨gq, 1, none⟩ = some (.int .i64 xs) := fun o => (hgq.stay (Ext.alloc w o)).cell 1
  have hplt := kP.lt
  have hglt := hgq.lt
  clear hb0 hw0 kP hl hw hwt hown hG hL hin hs ho hbP hN hgq
  go_enter Try.func13, Try.ntmps13
  go_wp2_with fail
  try go_ret
  exact hD.out _ _ ⟨rfl, XA.out⟩

set_option maxRecDepth 4000 in
set_option maxHeartbeats 8000000 in
theorem ans_ok1 (base P : Nat) (G : Option Nat) (st : Ps) (sq rc rv : Int) (rd : ByteArray) (rA : Option Addr) (rcap : Nat) (rl : List Int) (at_ : Int) (xc xk xi xm : Int) (xd : ByteArray) (w : World) (H : PAt w base P G st) (h0 : ¬ at_ < 0) (h1 : ¬ 1073741824 < at_) (hs : st.w 1 = some ⟨xc, sq, xk, xi, xm, xd⟩) (hn : st.acts.length ≤ 1000000) (hrl : rl.length ≤ 17592186043904) (hr : Sl i64 w rA rl) :
    Calls Try.prog 13 #[.pointer (some ⟨P, 0, none⟩), .int .i64 1, .int .i64 sq, .agg #[.int .i64 rc, .int .i64 rv, .string rd, .slice rA rl.length rcap], .int .i64 at_] w fun e w' => e = .returned (.int .i64 0) ∧ POut w w' base P G (ansS st 1 sq ⟨rc, rv, rd, rl⟩ at_) := by
  refine hide_post fun D hD => ?_
  generalize hN : rl.length = N at *
  have hlt := H.lt
  obtain ⟨hbP, v, l0, l1, l2, l3, p0, p1, p2, p3, o0, o1, o2, o3, L, kP, hl, hw, hwt, hown, hG, hL, hin⟩ := H
  have ho : o1 = some ⟨xc, sq, xk, xi, xm, xd⟩ := by unfold Ps.w at hs; rw [hw] at hs; exact hs
  have h5 := hwt.2.1
  rw [ho] at h5
  obtain ⟨gq, rfl, hgq⟩ := h5
  obtain ⟨w0, hw0⟩ : ∃ w0, w0 = w.alloc (.cells #[.int .i64 rc, .int .i64 rv, .string rd, .slice rA N rcap] 35) := ⟨_, rfl⟩
  have hb0 : Ext w w0 := by rw [hw0]; exact Ext.alloc _ _
  have HW := Lib.hid hw0
  have X0 : Hid (Ext w w0) := hb0
  have XA : Hid (Ext w (w.alloc (.cells #[.int .i64 rc, .int .i64 rv, .string rd, .slice rA N rcap] 35))) := Ext.alloc _ _
  have KR : Hid (Blk w0 w.heap.size 35 #[.int .i64 rc, .int .i64 rv, .string rd, .slice rA N rcap]) := by show Blk _ _ _ _; rw [hw0]; exact Blk.new _ _ _
  have CC : Hid (Calls Try.prog 38 #[.slice rA N rcap] w0 fun e w' => ∃ A c, e = .returned (.slice A N c) ∧ In w' A c rl ∧ Ext w0 w') := by
    have h6 := cloneI_big rA rcap rl w0 (by omega) (hr.stay hb0)
    rw [hN] at h6
    refine h6.mono ?_
    rintro e w' ⟨v, he, ho, hx⟩
    rw [← hN] at ho
    obtain ⟨A, c, rfl, hin⟩ := In.own ho
    rw [hN] at he
    exact ⟨A, c, he, hin, hx⟩
  have hLn : L.length ≤ 1000000000 := by have h5 := congrArg List.length hL; rw [List.length_map] at h5; omega
  have HLN : Hid (L.length ≤ 1000000000) := hLn
  have HNN := Lib.hid hN
  have HKPw := Lib.hid kP
  have HOWNw := Lib.hid hown
  have HKG := Lib.hid hgq
  have HWT := Lib.hid hwt
  have HG : Hid (v.ownBlock = G) := hG
  have HL := Lib.hid hL
  have HIN := Lib.hid hin
  have HBP : Hid (base ≤ P) := hbP
  have HBS : Hid (base ≤ w.heap.size) := Nat.le_trans hbP (Nat.le_of_lt hlt)
  have HLS := Lib.hid hl
  have HWS := Lib.hid hw
  have HOS : Hid (st.w 1 = some ⟨xc, sq, xk, xi, xm, xd⟩) := hs
  have HNP : Hid (¬ some P = G) := fun e => by
    obtain ⟨cs, hc⟩ := own_blk hown (hG.trans e.symm)
    exact Blk.apart kP hc (by decide) rfl
  obtain ⟨g, hg⟩ : ∃ g, g = w.heap.size := ⟨_, rfl⟩
  have HGG := Lib.hid hg
  have hgP : ¬ g = P := by omega
  have a6 : ∀ o, (w.alloc o).cell? ⟨P, 6, none⟩ = some (.pointer (some ⟨gq, 0, none⟩)) := fun o => (kP.stay (Ext.alloc w o)).cell 6
  have b1 : ∀ o, (w.alloc o).cell? ⟨gq, 1, none⟩ = some (.int .i64 sq) := fun o => (hgq.stay (Ext.alloc w o)).cell 1
  have hglt := hgq.lt
  have r3 : ∀ x y z u, (w.alloc (.cells #[x, y, z, u] 35)).cell? ⟨w.heap.size, 3, none⟩ = some u := fun x y z u => (Blk.new w _ _).cell 3
  have hplt := hlt
  clear hb0 hw0 kP hl hw hwt hown hG hL hin hs ho hlt hbP hLn hgq hn hrl hr hN hg
  go_enter Try.func13, Try.ntmps13
  go_upto_region 6 with (go_at_call 38; rw [← HW.out]; (with_reducible refine CC.out.mono ?_); rintro e w1 ⟨A2, c2, rfl, hin, hx⟩; have IN1 := Lib.hid hin; have X1 := Lib.hid hx; have KR1 := Lib.hid (KR.out.stay hx); have q3 := KR1.out.cell 3; have f3 := KR1.out.frozen 3; simp at q3; clear hin hx)
  rw [← HGG.out]
  obtain ⟨W2, hW2⟩ : ∃ W2, W2 = w1.setCell ⟨g, 3, none⟩ (.slice A2 N c2) := ⟨_, rfl⟩
  have HK1 : Hid (Blk w1 g 35 #[.int .i64 rc, .int .i64 rv, .string rd, .slice rA N rcap]) := by (show Blk _ _ _ _); rw [HGG.out]; exact KR1.out
  have KR2 : Hid (Blk W2 g 35 #[.int .i64 rc, .int .i64 rv, .string rd, .slice A2 N c2]) := by (show Blk _ _ _ _); rw [hW2]; exact HK1.out.set 3 _
  have FG : Hid (Frm (fun k => k = g) w1 W2) := by (show Frm _ _ _); rw [hW2]; exact Frm.of_set _ _ _ rfl
  have X2 : Hid (Ext w W2) := Frm.step (Ext.trans X0.out X1.out) FG.out (Ext.trans X0.out X1.out).size (by rintro k rfl; rw [HGG.out]; exact Nat.le_refl _)
  have IN2 : Hid (In W2 A2 c2 rl) := IN1.out.of (fun k cs h => h.frm FG.out (Blk.apart h HK1.out (by decide)))
  have KP2 := Lib.hid (HKPw.out.stay X2.out)
  have KG2 := Lib.hid (HKG.out.stay X2.out)
  have HOWN2 := Lib.hid (own_frmN HOWNw.out (Frm.of_below X2.out (fun _ => False)) (fun _ _ h => h))
  try rw [← hW2]
  clear hW2 q3 f3 a6 b1 r3
  have hnG : ∀ k t cs, t ≠ 50 → Blk W2 k t cs → ¬ some k = G := fun k t cs ht h e => by
    obtain ⟨cs', hc⟩ := own_blk HOWN2.out (HG.out.trans e.symm)
    exact Blk.apart h hc ht rfl
  have z0 : ∀ V, Frm (fun k => some k = G) W2 V → V.cell? ⟨g, 0, none⟩ = some (.int .i64 rc) := fun V h => ((KR2.out.frm h (hnG _ _ _ (by decide) KR2.out))).cell 0
  have z1 : ∀ V, Frm (fun k => some k = G) W2 V → V.cell? ⟨g, 1, none⟩ = some (.int .i64 rv) := fun V h => ((KR2.out.frm h (hnG _ _ _ (by decide) KR2.out))).cell 1
  have z2 : ∀ V, Frm (fun k => some k = G) W2 V → V.cell? ⟨g, 2, none⟩ = some (.string rd) := fun V h => ((KR2.out.frm h (hnG _ _ _ (by decide) KR2.out))).cell 2
  have z3 : ∀ V, Frm (fun k => some k = G) W2 V → V.cell? ⟨g, 3, none⟩ = some (.slice A2 N c2) := fun V h => ((KR2.out.frm h (hnG _ _ _ (by decide) KR2.out))).cell 3
  have x0 : ∀ V, Frm (fun k => some k = G) W2 V → V.cell? ⟨gq, 0, none⟩ = some (.int .i64 xc) := fun V h => ((KG2.out.frm h (hnG _ _ _ (by decide) KG2.out))).cell 0
  have x1 : ∀ V, Frm (fun k => some k = G) W2 V → V.cell? ⟨gq, 1, none⟩ = some (.int .i64 sq) := fun V h => ((KG2.out.frm h (hnG _ _ _ (by decide) KG2.out))).cell 1
  have x2 : ∀ V, Frm (fun k => some k = G) W2 V → V.cell? ⟨gq, 2, none⟩ = some (.int .i64 xk) := fun V h => ((KG2.out.frm h (hnG _ _ _ (by decide) KG2.out))).cell 2
  have x3 : ∀ V, Frm (fun k => some k = G) W2 V → V.cell? ⟨gq, 3, none⟩ = some (.int .i64 xi) := fun V h => ((KG2.out.frm h (hnG _ _ _ (by decide) KG2.out))).cell 3
  have x4 : ∀ V, Frm (fun k => some k = G) W2 V → V.cell? ⟨gq, 4, none⟩ = some (.int .i64 xm) := fun V h => ((KG2.out.frm h (hnG _ _ _ (by decide) KG2.out))).cell 4
  have x5 : ∀ V, Frm (fun k => some k = G) W2 V → V.cell? ⟨gq, 5, none⟩ = some (.string xd) := fun V h => ((KG2.out.frm h (hnG _ _ _ (by decide) KG2.out))).cell 5
  have y0 : ∀ V, Frm (fun k => some k = G) W2 V → V.cell? ⟨P, 0, none⟩ = some (v) := fun V h => ((KP2.out.frm h HNP.out)).cell 0
  have y6 : ∀ V, Frm (fun k => some k = G) W2 V → V.cell? ⟨P, 6, none⟩ = some (.pointer (some ⟨gq, 0, none⟩)) := fun V h => ((KP2.out.frm h HNP.out)).cell 6
  have Xe : Hid (Ext W2 W2.drew) := (Ext.refl _).drewR
  have E0g : Hid (Frm (fun k => some k = G) W2 W2.drew) := Frm.of_below Xe.out _
  refine rz_begin (fun k => some k = G) [22] (by kernel_rfl) ?_
  refine rz_take [20, 21, 22] (i := 0) (v := ?_) rfl (by kernel_rfl) (by kernel_rfl) (by kernel_rfl) (by kernel_rfl) (by kernel_rfl) (by kernel_rfl) (fun _ _ _ h => h) (by rfl) ?_ ?_
  rotate_left
  · intro W hW; have hW0 := Frm.tr E0g.out hW; clear hW; go_simp <;> with_reducible rfl
  try simp only [Act.put, List.setIfInBounds_toArray, List.set_cons_zero, List.set_cons_succ]
  refine rz_take [2, 3, 4, 19, 20, 21, 22] (i := 1) (v := ?_) rfl (by kernel_rfl) (by kernel_rfl) (by kernel_rfl) (by kernel_rfl) (by kernel_rfl) (by kernel_rfl) (fun _ _ _ h => h) (by rfl) ?_ ?_
  rotate_left
  · intro W hW; have hW0 := Frm.tr E0g.out hW; clear hW; go_simp <;> with_reducible rfl
  try simp only [Act.put, List.setIfInBounds_toArray, List.set_cons_zero, List.set_cons_succ]
  refine rz_take [3, 4, 19, 20, 21, 22] (i := 2) (v := ?_) rfl (by kernel_rfl) (by kernel_rfl) (by kernel_rfl) (by kernel_rfl) (by kernel_rfl) (by kernel_rfl) (fun _ _ _ h => h) (by rfl) ?_ ?_
  rotate_left
  · intro W hW; have hW0 := Frm.tr E0g.out hW; clear hW; go_simp <;> with_reducible rfl
  try simp only [Act.put, List.setIfInBounds_toArray, List.set_cons_zero, List.set_cons_succ]
  refine rz_take [4, 19, 20, 21, 22] (i := 3) (v := ?_) rfl (by kernel_rfl) (by kernel_rfl) (by kernel_rfl) (by kernel_rfl) (by kernel_rfl) (by kernel_rfl) (fun _ _ _ h => h) (by rfl) ?_ ?_
  rotate_left
  · intro W hW; have hW0 := Frm.tr E0g.out hW; clear hW; go_simp <;> with_reducible rfl
  try simp only [Act.put, List.setIfInBounds_toArray, List.set_cons_zero, List.set_cons_succ]
  refine rz_take [19, 20, 21, 22] (i := 4) (v := ?_) rfl (by kernel_rfl) (by kernel_rfl) (by kernel_rfl) (by kernel_rfl) (by kernel_rfl) (by kernel_rfl) (fun _ _ _ h => h) (by rfl) ?_ ?_
  rotate_left
  · intro W hW; have hW0 := Frm.tr E0g.out hW; clear hW; go_simp <;> with_reducible rfl
  try simp only [Act.put, List.setIfInBounds_toArray, List.set_cons_zero, List.set_cons_succ]
  refine rz_take [17, 18, 19, 20, 21, 22] (i := 5) (v := ?_) rfl (by kernel_rfl) (by kernel_rfl) (by kernel_rfl) (by kernel_rfl) (by kernel_rfl) (by kernel_rfl) (fun _ _ _ h => h) (by rfl) ?_ ?_
  rotate_left
  · intro W hW; have hW0 := Frm.tr E0g.out hW; clear hW; go_simp <;> with_reducible rfl
  try simp only [Act.put, List.setIfInBounds_toArray, List.set_cons_zero, List.set_cons_succ]
  refine rz_take [17, 18, 19, 20, 21, 22] (i := 6) (v := ?_) rfl (by kernel_rfl) (by kernel_rfl) (by kernel_rfl) (by kernel_rfl) (by kernel_rfl) (by kernel_rfl) (fun _ _ _ h => h) (by rfl) ?_ ?_
  rotate_left
  · intro W hW; have hW0 := Frm.tr E0g.out hW; clear hW; go_simp <;> with_reducible rfl
  try simp only [Act.put, List.setIfInBounds_toArray, List.set_cons_zero, List.set_cons_succ]
  refine rz_take [9, 10, 11, 12, 13, 14, 17, 18, 19, 20, 21, 22] (i := 7) (v := ?_) rfl (by kernel_rfl) (by kernel_rfl) (by kernel_rfl) (by kernel_rfl) (by kernel_rfl) (by kernel_rfl) (fun _ _ _ h => h) (by rfl) ?_ ?_
  rotate_left
  · intro W hW; have hW0 := Frm.tr E0g.out hW; clear hW; go_simp <;> with_reducible rfl
  try simp only [Act.put, List.setIfInBounds_toArray, List.set_cons_zero, List.set_cons_succ]
  refine rz_take [11, 12, 13, 14, 17, 18, 19, 20, 21, 22] (i := 8) (v := ?_) rfl (by kernel_rfl) (by kernel_rfl) (by kernel_rfl) (by kernel_rfl) (by kernel_rfl) (by kernel_rfl) (fun _ _ _ h => h) (by rfl) ?_ ?_
  rotate_left
  · intro W hW; have hW0 := Frm.tr E0g.out hW; clear hW; go_simp <;> with_reducible rfl
  try simp only [Act.put, List.setIfInBounds_toArray, List.set_cons_zero, List.set_cons_succ]
  refine rz_take [10, 11, 12, 13, 14, 17, 18, 19, 20, 21, 22] (i := 9) (v := ?_) rfl (by kernel_rfl) (by kernel_rfl) (by kernel_rfl) (by kernel_rfl) (by kernel_rfl) (by kernel_rfl) (fun _ _ _ h => h) (by rfl) ?_ ?_
  rotate_left
  · intro W hW; have hW0 := Frm.tr E0g.out hW; clear hW; go_simp <;> with_reducible rfl
  try simp only [Act.put, List.setIfInBounds_toArray, List.set_cons_zero, List.set_cons_succ]
  refine rz_take [11, 12, 13, 14, 17, 18, 19, 20, 21, 22] (i := 10) (v := ?_) rfl (by kernel_rfl) (by kernel_rfl) (by kernel_rfl) (by kernel_rfl) (by kernel_rfl) (by kernel_rfl) (fun _ _ _ h => h) (by rfl) ?_ ?_
  rotate_left
  · intro W hW; have hW0 := Frm.tr E0g.out hW; clear hW; go_simp <;> with_reducible rfl
  try simp only [Act.put, List.setIfInBounds_toArray, List.set_cons_zero, List.set_cons_succ]
  refine rz_take [12, 13, 14, 17, 18, 19, 20, 21, 22] (i := 11) (v := ?_) rfl (by kernel_rfl) (by kernel_rfl) (by kernel_rfl) (by kernel_rfl) (by kernel_rfl) (by kernel_rfl) (fun _ _ _ h => h) (by rfl) ?_ ?_
  rotate_left
  · intro W hW; have hW0 := Frm.tr E0g.out hW; clear hW; go_simp <;> with_reducible rfl
  try simp only [Act.put, List.setIfInBounds_toArray, List.set_cons_zero, List.set_cons_succ]
  refine rz_take [13, 14, 17, 18, 19, 20, 21, 22] (i := 12) (v := ?_) rfl (by kernel_rfl) (by kernel_rfl) (by kernel_rfl) (by kernel_rfl) (by kernel_rfl) (by kernel_rfl) (fun _ _ _ h => h) (by rfl) ?_ ?_
  rotate_left
  · intro W hW; have hW0 := Frm.tr E0g.out hW; clear hW; go_simp <;> with_reducible rfl
  try simp only [Act.put, List.setIfInBounds_toArray, List.set_cons_zero, List.set_cons_succ]
  refine rz_take [14, 17, 18, 19, 20, 21, 22] (i := 13) (v := ?_) rfl (by kernel_rfl) (by kernel_rfl) (by kernel_rfl) (by kernel_rfl) (by kernel_rfl) (by kernel_rfl) (fun _ _ _ h => h) (by rfl) ?_ ?_
  rotate_left
  · intro W hW; have hW0 := Frm.tr E0g.out hW; clear hW; go_simp <;> with_reducible rfl
  try simp only [Act.put, List.setIfInBounds_toArray, List.set_cons_zero, List.set_cons_succ]
  refine rz_take [17, 18, 19, 20, 21, 22] (i := 14) (v := ?_) rfl (by kernel_rfl) (by kernel_rfl) (by kernel_rfl) (by kernel_rfl) (by kernel_rfl) (by kernel_rfl) (fun _ _ _ h => h) (by rfl) ?_ ?_
  rotate_left
  · intro W hW; have hW0 := Frm.tr E0g.out hW; clear hW; go_simp <;> with_reducible rfl
  try simp only [Act.put, List.setIfInBounds_toArray, List.set_cons_zero, List.set_cons_succ]
  refine rz_take [17, 18, 19, 20, 21, 22] (i := 15) (v := ?_) rfl (by kernel_rfl) (by kernel_rfl) (by kernel_rfl) (by kernel_rfl) (by kernel_rfl) (by kernel_rfl) (fun _ _ _ h => h) (by rfl) ?_ ?_
  rotate_left
  · intro W hW; have hW0 := Frm.tr E0g.out hW; clear hW; go_simp <;> with_reducible rfl
  try simp only [Act.put, List.setIfInBounds_toArray, List.set_cons_zero, List.set_cons_succ]
  refine rz_take [17, 18, 19, 20, 21, 22] (i := 16) (v := ?_) rfl (by kernel_rfl) (by kernel_rfl) (by kernel_rfl) (by kernel_rfl) (by kernel_rfl) (by kernel_rfl) (fun _ _ _ h => h) (by rfl) ?_ ?_
  rotate_left
  · intro W hW; have hW0 := Frm.tr E0g.out hW; clear hW; go_simp <;> with_reducible rfl
  try simp only [Act.put, List.setIfInBounds_toArray, List.set_cons_zero, List.set_cons_succ]
  refine rz_take [18, 19, 20, 21, 22] (i := 17) (v := ?_) rfl (by kernel_rfl) (by kernel_rfl) (by kernel_rfl) (by kernel_rfl) (by kernel_rfl) (by kernel_rfl) (fun _ _ _ h => h) (by rfl) ?_ ?_
  rotate_left
  · intro W hW; have hW0 := Frm.tr E0g.out hW; clear hW; go_simp <;> with_reducible rfl
  try simp only [Act.put, List.setIfInBounds_toArray, List.set_cons_zero, List.set_cons_succ]
  refine rz_call (i := 18) rfl (by kernel_rfl) (by rfl) (fun K hK => ?_)
  go_simp
  refine hK _ _ (Frm.of_alloc _ _ _) ?_; clear hK K
  obtain ⟨W3, hW3⟩ : ∃ W3, W3 = (W2.alloc (.cells #[.int .i64 1, .int .i64 sq, .bool true, .int .i64 xc, .int .i64 sq, .int .i64 xk, .int .i64 xi, .int .i64 xm, .string xd, .int .i64 rc, .int .i64 rv, .string rd, .slice A2 N c2, .int .i64 at_] 50)).drew := ⟨_, rfl⟩
  have KR3 : Hid (Blk W3 W2.drew.heap.size 50 #[.int .i64 1, .int .i64 sq, .bool true, .int .i64 xc, .int .i64 sq, .int .i64 xk, .int .i64 xi, .int .i64 xm, .string xd, .int .i64 rc, .int .i64 rv, .string rd, .slice A2 N c2, .int .i64 at_]) := by (show Blk _ _ _ _); rw [hW3]; exact Blk.new W2.drew _ _
  have X3 : Hid (Ext W2.drew W3) := by (show Ext _ _); rw [hW3]; exact Ext.alloc W2.drew _
  have E3 : Hid (Frm (fun k => some k = G) W2 W3) := Frm.tr E0g.out (Frm.of_below X3.out _)
  try rw [← hW3]
  clear hW3
  try simp only [Act.put, List.setIfInBounds_toArray, List.set_cons_zero, List.set_cons_succ]
  refine rz_call (i := 19) rfl (by kernel_rfl) (by rfl) (fun K hK => ?_)
  refine wp_append_wide (.tmp 57) (.tmp 71) 26 rfl base 50 _ 14 144 Try.underlying26 info_act rfl (by decide) (by decide) v L.length (flatA L) rfl (own_frmN HOWN2.out (Frm.of_below (Ext.trans Xe.out X3.out) (fun _ => False)) (fun _ _ h => h)) W2.drew.heap.size [.int .i64 1, .int .i64 sq, .bool true, .int .i64 xc, .int .i64 sq, .int .i64 xk, .int .i64 xi, .int .i64 xm, .string xd, .int .i64 rc, .int .i64 rv, .string rd, .slice A2 N c2, .int .i64 at_] rfl rfl KR3.out (by intro y hy; simp at hy; rcases hy with rfl | rfl | rfl | rfl | rfl | rfl | rfl | rfl | rfl | rfl | rfl | rfl | rfl | rfl <;> rfl) HLN.out (Nat.le_trans HBS.out (Nat.le_trans X2.out.size (Nat.le_trans Xe.out.size X3.out.size))) ?_
  intro v2 W4 oo gg bb
  obtain ⟨A3, cap3, hv3⟩ := own_shape oo
  subst hv3
  refine hK _ _ (Frm.of_grown gg (fun k hk => hk.trans HG.out)) ?_; clear hK K
  have O4 := Lib.hid oo
  have BB4 := Lib.hid bb
  have E4 : Hid (Frm (fun k => some k = G) W2 W4) := Frm.tr E3.out (Frm.of_grown gg (fun k hk => hk.trans HG.out))
  clear oo gg bb
  have KP4 : Hid (Blk W4 P 77 #[v, .int .i64 l0, .int .i64 l1, .int .i64 l2, .int .i64 l3, p0, .pointer (some ⟨gq, 0, none⟩), p2, p3]) := KP2.out.frm E4.out (fun e => HNP.out e)
  try simp only [Act.put, List.setIfInBounds_toArray, List.set_cons_zero, List.set_cons_succ]
  refine rz_take [21, 22] (i := 20) (v := ?_) rfl (by kernel_rfl) (by kernel_rfl) (by kernel_rfl) (by kernel_rfl) (by kernel_rfl) (by kernel_rfl) (fun _ _ _ h => h) (by rfl) ?_ ?_
  rotate_left
  · intro W hW; have hW0 := Frm.tr E4.out hW; clear hW; go_simp <;> with_reducible rfl
  try simp only [Act.put, List.setIfInBounds_toArray, List.set_cons_zero, List.set_cons_succ]
  refine rz_take [22] (i := 21) (v := ?_) rfl (by kernel_rfl) (by kernel_rfl) (by kernel_rfl) (by kernel_rfl) (by kernel_rfl) (by kernel_rfl) (fun _ _ _ h => h) (by rfl) ?_ ?_
  rotate_left
  · intro W hW; have hW0 := Frm.tr E4.out hW; clear hW; go_simp <;> with_reducible rfl
  try simp only [Act.put, List.setIfInBounds_toArray, List.set_cons_zero, List.set_cons_succ]
  refine rz_last (i := 22) rfl (by kernel_rfl) (by rfl) (by rfl) (fun K hK => ?_)
  have q1 := KP4.out.frozen 0
  have r1 := KP4.out.cell 0
  simp at r1
  go_simp
  refine hK _ _ ?_; clear hK K q1 r1
  obtain ⟨W5, hW5⟩ : ∃ W5, W5 = W4.setCell ⟨P, 0, none⟩ (.slice A3 (L.length + 1) cap3) := ⟨_, rfl⟩
  have KP5 : Hid (Blk W5 P 77 #[.slice A3 (L.length + 1) cap3, .int .i64 l0, .int .i64 l1, .int .i64 l2, .int .i64 l3, p0, .pointer (some ⟨gq, 0, none⟩), p2, p3]) := by (show Blk _ _ _ _); rw [hW5]; exact KP4.out.set 0 _
  have F5 : Hid (Frm (fun k => k = P) W4 W5) := by (show Frm _ _ _); rw [hW5]; exact Frm.of_set _ _ _ rfl
  try rw [← hW5]
  clear hW5
  try simp only [Act.put, List.setIfInBounds_toArray, List.set_cons_zero, List.set_cons_succ]
  refine rz_done (by kernel_rfl) ?_ _
  clear z0 z1 z2 z3 x0 x1 x2 x3 x4 x5 y0 y6
  have k5 := KP5.out.cell 6
  have g5 := KP5.out.frozen 6
  simp at k5
  go_wp2_with fail
  try go_ret
  obtain ⟨W6, hW6⟩ : ∃ W6, W6 = W5.setCell ⟨P, 6, none⟩ (.pointer none) := ⟨_, rfl⟩
  have KP6 : Blk W6 P 77 #[.slice A3 (L.length + 1) cap3, .int .i64 l0, .int .i64 l1, .int .i64 l2, .int .i64 l3, p0, .pointer none, p2, p3] := by rw [hW6]; exact KP5.out.set 6 _
  have F6 : Frm (fun k => k = P) W4 W6 := by rw [hW6]; exact Frm.tr F5.out (Frm.of_set _ _ _ rfl)
  try rw [← hW6]
  clear hW6
  have FA2 : Frm (Psel P G) W2 W6 := Frm.tr (E4.out.mono (fun k hk => Or.inr hk)) (F6.mono (fun k hk => Or.inl hk))
  have FA : Frm (Psel P G) w W6 := Frm.tr (Frm.of_below X2.out _) FA2
  have hkeep : ∀ k t cs, t = 29 ∨ t = 3 → Blk W2 k t cs → Blk W6 k t cs := fun k t cs ht h => h.frm FA2 (fun hh => by
    have ht2 : t ≠ 50 ∧ t ≠ 77 := by rcases ht with rfl | rfl <;> exact ⟨by decide, by decide⟩
    rcases hh with hh | hh
    · subst hh; exact Blk.apart h KP2.out ht2.2 rfl
    · exact hnG k t cs ht2.1 h hh)
  have hq5 : ∀ g cs, Blk w g 29 cs → Blk W6 g 29 cs := fun k cs h => hkeep k _ cs (.inl rfl) (h.stay X2.out)
  obtain ⟨h40, h41, h42, h43⟩ := HWT.out
  have O5 : W6.ownsRow base 50 14 (.slice A3 (L.length + 1) cap3) (L ++ [At.mk (Ac.mk 1 sq true (Rqv.mk xc sq xk xi xm xd) (Rpv.mk rc rv rd rl) at_) A2 c2]).length (flatA (L ++ [At.mk (Ac.mk 1 sq true (Rqv.mk xc sq xk xi xm xd) (Rpv.mk rc rv rd rl) at_) A2 c2])) := by
    rw [flatA_append, List.length_append]
    have h7 := own_frmN O4.out F6 (fun k hk e => own_blkne O4.out KP4.out (by decide) k hk e)
    have h8 : flatA [At.mk (Ac.mk 1 sq true (Rqv.mk xc sq xk xi xm xd) (Rpv.mk rc rv rd rl) at_) A2 c2] = [.int .i64 1, .int .i64 sq, .bool true, .int .i64 xc, .int .i64 sq, .int .i64 xk, .int .i64 xi, .int .i64 xm, .string xd, .int .i64 rc, .int .i64 rv, .string rd, .slice A2 N c2, .int .i64 at_] := by simp [flatA, acRow, HNN.out]
    rw [h8]
    exact h7
  refine hD.out _ _ ⟨rfl, _, ⟨HBP.out, .slice A3 (L.length + 1) cap3, l0, l1, l2, l3, p0, .pointer none, p2, p3, o0, none, o2, o3, L ++ [At.mk (Ac.mk 1 sq true (Rqv.mk xc sq xk xi xm xd) (Rpv.mk rc rv rd rl) at_) A2 c2], KP6, HLS.out, ?_, ⟨h40.of hq5, rfl, h42.of hq5, h43.of hq5⟩, O5, rfl, ?_, ?_⟩, FA, ?_⟩
  · show st.wait.set 1 none = _
    rw [HWS.out]; rfl
  · show _ = st.acts ++ [(⟨1, sq, true, (st.w 1).getD ⟨0, 0, 0, 0, 0, ⟨#[]⟩⟩, ⟨rc, rv, rd, rl⟩, at_⟩ : Ac)]
    rw [HOS.out, List.map_append, HL.out]; rfl
  · intro t ht
    rw [List.mem_append, List.mem_singleton] at ht
    rcases ht with ht | rfl
    · exact ((HIN.out t ht).stay X2.out).of (fun k cs h => hkeep k _ cs (.inr rfl) h)
    · exact IN2.out.of (fun k cs h => hkeep k _ cs (.inr rfl) h)
  · rcases BB4.out with h5 | h5
    · exact .inl (h5.trans HG.out)
    · exact .inr ⟨_, h5, Nat.le_trans X2.out.size (Nat.le_trans Xe.out.size X3.out.size)⟩

set_option maxRecDepth 4000 in
set_option maxHeartbeats 8000000 in
theorem ans_none2 (base P : Nat) (G : Option Nat) (st : Ps) (sq rc rv : Int) (rd : ByteArray) (rA : Option Addr) (rcap : Nat) (rl : List Int) (at_ : Int) (w : World) (H : PAt w base P G st) (h0 : ¬ at_ < 0) (h1 : ¬ 1073741824 < at_) (hs : st.w 2 = none) :
    Calls Try.prog 13 #[.pointer (some ⟨P, 0, none⟩), .int .i64 2, .int .i64 sq, .agg #[.int .i64 rc, .int .i64 rv, .string rd, .slice rA rl.length rcap], .int .i64 at_] w fun e w' => e = .returned (.int .i64 4) ∧ Ext w w' := by
  refine hide_post fun D hD => ?_
  generalize hN : rl.length = N at *
  obtain ⟨hbP, v, l0, l1, l2, l3, p0, p1, p2, p3, o0, o1, o2, o3, L, kP, hl, hw, hwt, hown, hG, hL, hin⟩ := H
  have ho : o2 = none := by unfold Ps.w at hs; rw [hw] at hs; exact hs
  obtain rfl : p2 = .pointer none := by have h5 := hwt.2.2.1; rw [ho] at h5; exact h5
  obtain ⟨w0, hw0⟩ : ∃ w0, w0 = w.alloc (.cells #[.int .i64 rc, .int .i64 rv, .string rd, .slice rA N rcap] 35) := ⟨_, rfl⟩
  have hb0 : Ext w w0 := by rw [hw0]; exact Ext.alloc _ _
  have HW := Lib.hid hw0
  have X0 : Hid (Ext w w0) := hb0
  have XA : Hid (Ext w (w.alloc (.cells #[.int .i64 rc, .int .i64 rv, .string rd, .slice rA N rcap] 35))) := Ext.alloc _ _
  have a7 : ∀ o, (w.alloc o).cell? ⟨P, 7, none⟩ = some (.pointer none) := fun o => (kP.stay (Ext.alloc w o)).cell 7
  have hplt := kP.lt
  clear hb0 hw0 kP hl hw hwt hown hG hL hin hs ho hbP hN
  go_enter Try.func13, Try.ntmps13
  go_wp2_with fail
  try go_ret
  exact hD.out _ _ ⟨rfl, XA.out⟩

set_option maxRecDepth 4000 in
set_option maxHeartbeats 8000000 in
theorem ans_other2 (base P : Nat) (G : Option Nat) (st : Ps) (sq rc rv : Int) (rd : ByteArray) (rA : Option Addr) (rcap : Nat) (rl : List Int) (at_ : Int) (xc xs xk xi xm : Int) (xd : ByteArray) (w : World) (H : PAt w base P G st) (h0 : ¬ at_ < 0) (h1 : ¬ 1073741824 < at_) (hs : st.w 2 = some ⟨xc, xs, xk, xi, xm, xd⟩) (hq : ¬ xs = sq) :
    Calls Try.prog 13 #[.pointer (some ⟨P, 0, none⟩), .int .i64 2, .int .i64 sq, .agg #[.int .i64 rc, .int .i64 rv, .string rd, .slice rA rl.length rcap], .int .i64 at_] w fun e w' => e = .returned (.int .i64 4) ∧ Ext w w' := by
  refine hide_post fun D hD => ?_
  generalize hN : rl.length = N at *
  obtain ⟨hbP, v, l0, l1, l2, l3, p0, p1, p2, p3, o0, o1, o2, o3, L, kP, hl, hw, hwt, hown, hG, hL, hin⟩ := H
  have ho : o2 = some ⟨xc, xs, xk, xi, xm, xd⟩ := by unfold Ps.w at hs; rw [hw] at hs; exact hs
  have h5 := hwt.2.2.1
  rw [ho] at h5
  obtain ⟨gq, rfl, hgq⟩ := h5
  obtain ⟨w0, hw0⟩ : ∃ w0, w0 = w.alloc (.cells #[.int .i64 rc, .int .i64 rv, .string rd, .slice rA N rcap] 35) := ⟨_, rfl⟩
  have hb0 : Ext w w0 := by rw [hw0]; exact Ext.alloc _ _
  have HW := Lib.hid hw0
  have X0 : Hid (Ext w w0) := hb0
  have XA : Hid (Ext w (w.alloc (.cells #[.int .i64 rc, .int .i64 rv, .string rd, .slice rA N rcap] 35))) := Ext.alloc _ _
  have a7 : ∀ o, (w.alloc o).cell? ⟨P, 7, none⟩ = some (.pointer (some ⟨gq, 0, none⟩)) := fun o => (kP.stay (Ext.alloc w o)).cell 7
  have b1 : ∀ o, (w.alloc o).cell? ⟨gq, 1, none⟩ = some (.int .i64 xs) := fun o => (hgq.stay (Ext.alloc w o)).cell 1
  have hplt := kP.lt
  have hglt := hgq.lt
  clear hb0 hw0 kP hl hw hwt hown hG hL hin hs ho hbP hN hgq
  go_enter Try.func13, Try.ntmps13
  go_wp2_with fail
  try go_ret
  exact hD.out _ _ ⟨rfl, XA.out⟩

set_option maxRecDepth 4000 in
set_option maxHeartbeats 8000000 in
theorem ans_ok2 (base P : Nat) (G : Option Nat) (st : Ps) (sq rc rv : Int) (rd : ByteArray) (rA : Option Addr) (rcap : Nat) (rl : List Int) (at_ : Int) (xc xk xi xm : Int) (xd : ByteArray) (w : World) (H : PAt w base P G st) (h0 : ¬ at_ < 0) (h1 : ¬ 1073741824 < at_) (hs : st.w 2 = some ⟨xc, sq, xk, xi, xm, xd⟩) (hn : st.acts.length ≤ 1000000) (hrl : rl.length ≤ 17592186043904) (hr : Sl i64 w rA rl) :
    Calls Try.prog 13 #[.pointer (some ⟨P, 0, none⟩), .int .i64 2, .int .i64 sq, .agg #[.int .i64 rc, .int .i64 rv, .string rd, .slice rA rl.length rcap], .int .i64 at_] w fun e w' => e = .returned (.int .i64 0) ∧ POut w w' base P G (ansS st 2 sq ⟨rc, rv, rd, rl⟩ at_) := by
  refine hide_post fun D hD => ?_
  generalize hN : rl.length = N at *
  have hlt := H.lt
  obtain ⟨hbP, v, l0, l1, l2, l3, p0, p1, p2, p3, o0, o1, o2, o3, L, kP, hl, hw, hwt, hown, hG, hL, hin⟩ := H
  have ho : o2 = some ⟨xc, sq, xk, xi, xm, xd⟩ := by unfold Ps.w at hs; rw [hw] at hs; exact hs
  have h5 := hwt.2.2.1
  rw [ho] at h5
  obtain ⟨gq, rfl, hgq⟩ := h5
  obtain ⟨w0, hw0⟩ : ∃ w0, w0 = w.alloc (.cells #[.int .i64 rc, .int .i64 rv, .string rd, .slice rA N rcap] 35) := ⟨_, rfl⟩
  have hb0 : Ext w w0 := by rw [hw0]; exact Ext.alloc _ _
  have HW := Lib.hid hw0
  have X0 : Hid (Ext w w0) := hb0
  have XA : Hid (Ext w (w.alloc (.cells #[.int .i64 rc, .int .i64 rv, .string rd, .slice rA N rcap] 35))) := Ext.alloc _ _
  have KR : Hid (Blk w0 w.heap.size 35 #[.int .i64 rc, .int .i64 rv, .string rd, .slice rA N rcap]) := by show Blk _ _ _ _; rw [hw0]; exact Blk.new _ _ _
  have CC : Hid (Calls Try.prog 38 #[.slice rA N rcap] w0 fun e w' => ∃ A c, e = .returned (.slice A N c) ∧ In w' A c rl ∧ Ext w0 w') := by
    have h6 := cloneI_big rA rcap rl w0 (by omega) (hr.stay hb0)
    rw [hN] at h6
    refine h6.mono ?_
    rintro e w' ⟨v, he, ho, hx⟩
    rw [← hN] at ho
    obtain ⟨A, c, rfl, hin⟩ := In.own ho
    rw [hN] at he
    exact ⟨A, c, he, hin, hx⟩
  have hLn : L.length ≤ 1000000000 := by have h5 := congrArg List.length hL; rw [List.length_map] at h5; omega
  have HLN : Hid (L.length ≤ 1000000000) := hLn
  have HNN := Lib.hid hN
  have HKPw := Lib.hid kP
  have HOWNw := Lib.hid hown
  have HKG := Lib.hid hgq
  have HWT := Lib.hid hwt
  have HG : Hid (v.ownBlock = G) := hG
  have HL := Lib.hid hL
  have HIN := Lib.hid hin
  have HBP : Hid (base ≤ P) := hbP
  have HBS : Hid (base ≤ w.heap.size) := Nat.le_trans hbP (Nat.le_of_lt hlt)
  have HLS := Lib.hid hl
  have HWS := Lib.hid hw
  have HOS : Hid (st.w 2 = some ⟨xc, sq, xk, xi, xm, xd⟩) := hs
  have HNP : Hid (¬ some P = G) := fun e => by
    obtain ⟨cs, hc⟩ := own_blk hown (hG.trans e.symm)
    exact Blk.apart kP hc (by decide) rfl
  obtain ⟨g, hg⟩ : ∃ g, g = w.heap.size := ⟨_, rfl⟩
  have HGG := Lib.hid hg
  have hgP : ¬ g = P := by omega
  have a7 : ∀ o, (w.alloc o).cell? ⟨P, 7, none⟩ = some (.pointer (some ⟨gq, 0, none⟩)) := fun o => (kP.stay (Ext.alloc w o)).cell 7
  have b1 : ∀ o, (w.alloc o).cell? ⟨gq, 1, none⟩ = some (.int .i64 sq) := fun o => (hgq.stay (Ext.alloc w o)).cell 1
  have hglt := hgq.lt
  have r3 : ∀ x y z u, (w.alloc (.cells #[x, y, z, u] 35)).cell? ⟨w.heap.size, 3, none⟩ = some u := fun x y z u => (Blk.new w _ _).cell 3
  have hplt := hlt
  clear hb0 hw0 kP hl hw hwt hown hG hL hin hs ho hlt hbP hLn hgq hn hrl hr hN hg
  go_enter Try.func13, Try.ntmps13
  go_upto_region 6 with (go_at_call 38; rw [← HW.out]; (with_reducible refine CC.out.mono ?_); rintro e w1 ⟨A2, c2, rfl, hin, hx⟩; have IN1 := Lib.hid hin; have X1 := Lib.hid hx; have KR1 := Lib.hid (KR.out.stay hx); have q3 := KR1.out.cell 3; have f3 := KR1.out.frozen 3; simp at q3; clear hin hx)
  rw [← HGG.out]
  obtain ⟨W2, hW2⟩ : ∃ W2, W2 = w1.setCell ⟨g, 3, none⟩ (.slice A2 N c2) := ⟨_, rfl⟩
  have HK1 : Hid (Blk w1 g 35 #[.int .i64 rc, .int .i64 rv, .string rd, .slice rA N rcap]) := by (show Blk _ _ _ _); rw [HGG.out]; exact KR1.out
  have KR2 : Hid (Blk W2 g 35 #[.int .i64 rc, .int .i64 rv, .string rd, .slice A2 N c2]) := by (show Blk _ _ _ _); rw [hW2]; exact HK1.out.set 3 _
  have FG : Hid (Frm (fun k => k = g) w1 W2) := by (show Frm _ _ _); rw [hW2]; exact Frm.of_set _ _ _ rfl
  have X2 : Hid (Ext w W2) := Frm.step (Ext.trans X0.out X1.out) FG.out (Ext.trans X0.out X1.out).size (by rintro k rfl; rw [HGG.out]; exact Nat.le_refl _)
  have IN2 : Hid (In W2 A2 c2 rl) := IN1.out.of (fun k cs h => h.frm FG.out (Blk.apart h HK1.out (by decide)))
  have KP2 := Lib.hid (HKPw.out.stay X2.out)
  have KG2 := Lib.hid (HKG.out.stay X2.out)
  have HOWN2 := Lib.hid (own_frmN HOWNw.out (Frm.of_below X2.out (fun _ => False)) (fun _ _ h => h))
  try rw [← hW2]
  clear hW2 q3 f3 a7 b1 r3
  have hnG : ∀ k t cs, t ≠ 50 → Blk W2 k t cs → ¬ some k = G := fun k t cs ht h e => by
    obtain ⟨cs', hc⟩ := own_blk HOWN2.out (HG.out.trans e.symm)
    exact Blk.apart h hc ht rfl
  have z0 : ∀ V, Frm (fun k => some k = G) W2 V → V.cell? ⟨g, 0, none⟩ = some (.int .i64 rc) := fun V h => ((KR2.out.frm h (hnG _ _ _ (by decide) KR2.out))).cell 0
  have z1 : ∀ V, Frm (fun k => some k = G) W2 V → V.cell? ⟨g, 1, none⟩ = some (.int .i64 rv) := fun V h => ((KR2.out.frm h (hnG _ _ _ (by decide) KR2.out))).cell 1
  have z2 : ∀ V, Frm (fun k => some k = G) W2 V → V.cell? ⟨g, 2, none⟩ = some (.string rd) := fun V h => ((KR2.out.frm h (hnG _ _ _ (by decide) KR2.out))).cell 2
  have z3 : ∀ V, Frm (fun k => some k = G) W2 V → V.cell? ⟨g, 3, none⟩ = some (.slice A2 N c2) := fun V h => ((KR2.out.frm h (hnG _ _ _ (by decide) KR2.out))).cell 3
  have x0 : ∀ V, Frm (fun k => some k = G) W2 V → V.cell? ⟨gq, 0, none⟩ = some (.int .i64 xc) := fun V h => ((KG2.out.frm h (hnG _ _ _ (by decide) KG2.out))).cell 0
  have x1 : ∀ V, Frm (fun k => some k = G) W2 V → V.cell? ⟨gq, 1, none⟩ = some (.int .i64 sq) := fun V h => ((KG2.out.frm h (hnG _ _ _ (by decide) KG2.out))).cell 1
  have x2 : ∀ V, Frm (fun k => some k = G) W2 V → V.cell? ⟨gq, 2, none⟩ = some (.int .i64 xk) := fun V h => ((KG2.out.frm h (hnG _ _ _ (by decide) KG2.out))).cell 2
  have x3 : ∀ V, Frm (fun k => some k = G) W2 V → V.cell? ⟨gq, 3, none⟩ = some (.int .i64 xi) := fun V h => ((KG2.out.frm h (hnG _ _ _ (by decide) KG2.out))).cell 3
  have x4 : ∀ V, Frm (fun k => some k = G) W2 V → V.cell? ⟨gq, 4, none⟩ = some (.int .i64 xm) := fun V h => ((KG2.out.frm h (hnG _ _ _ (by decide) KG2.out))).cell 4
  have x5 : ∀ V, Frm (fun k => some k = G) W2 V → V.cell? ⟨gq, 5, none⟩ = some (.string xd) := fun V h => ((KG2.out.frm h (hnG _ _ _ (by decide) KG2.out))).cell 5
  have y0 : ∀ V, Frm (fun k => some k = G) W2 V → V.cell? ⟨P, 0, none⟩ = some (v) := fun V h => ((KP2.out.frm h HNP.out)).cell 0
  have y7 : ∀ V, Frm (fun k => some k = G) W2 V → V.cell? ⟨P, 7, none⟩ = some (.pointer (some ⟨gq, 0, none⟩)) := fun V h => ((KP2.out.frm h HNP.out)).cell 7
  have Xe : Hid (Ext W2 W2.drew) := (Ext.refl _).drewR
  have E0g : Hid (Frm (fun k => some k = G) W2 W2.drew) := Frm.of_below Xe.out _
  refine rz_begin (fun k => some k = G) [22] (by kernel_rfl) ?_
  refine rz_take [20, 21, 22] (i := 0) (v := ?_) rfl (by kernel_rfl) (by kernel_rfl) (by kernel_rfl) (by kernel_rfl) (by kernel_rfl) (by kernel_rfl) (fun _ _ _ h => h) (by rfl) ?_ ?_
  rotate_left
  · intro W hW; have hW0 := Frm.tr E0g.out hW; clear hW; go_simp <;> with_reducible rfl
  try simp only [Act.put, List.setIfInBounds_toArray, List.set_cons_zero, List.set_cons_succ]
  refine rz_take [2, 3, 4, 19, 20, 21, 22] (i := 1) (v := ?_) rfl (by kernel_rfl) (by kernel_rfl) (by kernel_rfl) (by kernel_rfl) (by kernel_rfl) (by kernel_rfl) (fun _ _ _ h => h) (by rfl) ?_ ?_
  rotate_left
  · intro W hW; have hW0 := Frm.tr E0g.out hW; clear hW; go_simp <;> with_reducible rfl
  try simp only [Act.put, List.setIfInBounds_toArray, List.set_cons_zero, List.set_cons_succ]
  refine rz_take [3, 4, 19, 20, 21, 22] (i := 2) (v := ?_) rfl (by kernel_rfl) (by kernel_rfl) (by kernel_rfl) (by kernel_rfl) (by kernel_rfl) (by kernel_rfl) (fun _ _ _ h => h) (by rfl) ?_ ?_
  rotate_left
  · intro W hW; have hW0 := Frm.tr E0g.out hW; clear hW; go_simp <;> with_reducible rfl
  try simp only [Act.put, List.setIfInBounds_toArray, List.set_cons_zero, List.set_cons_succ]
  refine rz_take [4, 19, 20, 21, 22] (i := 3) (v := ?_) rfl (by kernel_rfl) (by kernel_rfl) (by kernel_rfl) (by kernel_rfl) (by kernel_rfl) (by kernel_rfl) (fun _ _ _ h => h) (by rfl) ?_ ?_
  rotate_left
  · intro W hW; have hW0 := Frm.tr E0g.out hW; clear hW; go_simp <;> with_reducible rfl
  try simp only [Act.put, List.setIfInBounds_toArray, List.set_cons_zero, List.set_cons_succ]
  refine rz_take [19, 20, 21, 22] (i := 4) (v := ?_) rfl (by kernel_rfl) (by kernel_rfl) (by kernel_rfl) (by kernel_rfl) (by kernel_rfl) (by kernel_rfl) (fun _ _ _ h => h) (by rfl) ?_ ?_
  rotate_left
  · intro W hW; have hW0 := Frm.tr E0g.out hW; clear hW; go_simp <;> with_reducible rfl
  try simp only [Act.put, List.setIfInBounds_toArray, List.set_cons_zero, List.set_cons_succ]
  refine rz_take [17, 18, 19, 20, 21, 22] (i := 5) (v := ?_) rfl (by kernel_rfl) (by kernel_rfl) (by kernel_rfl) (by kernel_rfl) (by kernel_rfl) (by kernel_rfl) (fun _ _ _ h => h) (by rfl) ?_ ?_
  rotate_left
  · intro W hW; have hW0 := Frm.tr E0g.out hW; clear hW; go_simp <;> with_reducible rfl
  try simp only [Act.put, List.setIfInBounds_toArray, List.set_cons_zero, List.set_cons_succ]
  refine rz_take [17, 18, 19, 20, 21, 22] (i := 6) (v := ?_) rfl (by kernel_rfl) (by kernel_rfl) (by kernel_rfl) (by kernel_rfl) (by kernel_rfl) (by kernel_rfl) (fun _ _ _ h => h) (by rfl) ?_ ?_
  rotate_left
  · intro W hW; have hW0 := Frm.tr E0g.out hW; clear hW; go_simp <;> with_reducible rfl
  try simp only [Act.put, List.setIfInBounds_toArray, List.set_cons_zero, List.set_cons_succ]
  refine rz_take [9, 10, 11, 12, 13, 14, 17, 18, 19, 20, 21, 22] (i := 7) (v := ?_) rfl (by kernel_rfl) (by kernel_rfl) (by kernel_rfl) (by kernel_rfl) (by kernel_rfl) (by kernel_rfl) (fun _ _ _ h => h) (by rfl) ?_ ?_
  rotate_left
  · intro W hW; have hW0 := Frm.tr E0g.out hW; clear hW; go_simp <;> with_reducible rfl
  try simp only [Act.put, List.setIfInBounds_toArray, List.set_cons_zero, List.set_cons_succ]
  refine rz_take [11, 12, 13, 14, 17, 18, 19, 20, 21, 22] (i := 8) (v := ?_) rfl (by kernel_rfl) (by kernel_rfl) (by kernel_rfl) (by kernel_rfl) (by kernel_rfl) (by kernel_rfl) (fun _ _ _ h => h) (by rfl) ?_ ?_
  rotate_left
  · intro W hW; have hW0 := Frm.tr E0g.out hW; clear hW; go_simp <;> with_reducible rfl
  try simp only [Act.put, List.setIfInBounds_toArray, List.set_cons_zero, List.set_cons_succ]
  refine rz_take [10, 11, 12, 13, 14, 17, 18, 19, 20, 21, 22] (i := 9) (v := ?_) rfl (by kernel_rfl) (by kernel_rfl) (by kernel_rfl) (by kernel_rfl) (by kernel_rfl) (by kernel_rfl) (fun _ _ _ h => h) (by rfl) ?_ ?_
  rotate_left
  · intro W hW; have hW0 := Frm.tr E0g.out hW; clear hW; go_simp <;> with_reducible rfl
  try simp only [Act.put, List.setIfInBounds_toArray, List.set_cons_zero, List.set_cons_succ]
  refine rz_take [11, 12, 13, 14, 17, 18, 19, 20, 21, 22] (i := 10) (v := ?_) rfl (by kernel_rfl) (by kernel_rfl) (by kernel_rfl) (by kernel_rfl) (by kernel_rfl) (by kernel_rfl) (fun _ _ _ h => h) (by rfl) ?_ ?_
  rotate_left
  · intro W hW; have hW0 := Frm.tr E0g.out hW; clear hW; go_simp <;> with_reducible rfl
  try simp only [Act.put, List.setIfInBounds_toArray, List.set_cons_zero, List.set_cons_succ]
  refine rz_take [12, 13, 14, 17, 18, 19, 20, 21, 22] (i := 11) (v := ?_) rfl (by kernel_rfl) (by kernel_rfl) (by kernel_rfl) (by kernel_rfl) (by kernel_rfl) (by kernel_rfl) (fun _ _ _ h => h) (by rfl) ?_ ?_
  rotate_left
  · intro W hW; have hW0 := Frm.tr E0g.out hW; clear hW; go_simp <;> with_reducible rfl
  try simp only [Act.put, List.setIfInBounds_toArray, List.set_cons_zero, List.set_cons_succ]
  refine rz_take [13, 14, 17, 18, 19, 20, 21, 22] (i := 12) (v := ?_) rfl (by kernel_rfl) (by kernel_rfl) (by kernel_rfl) (by kernel_rfl) (by kernel_rfl) (by kernel_rfl) (fun _ _ _ h => h) (by rfl) ?_ ?_
  rotate_left
  · intro W hW; have hW0 := Frm.tr E0g.out hW; clear hW; go_simp <;> with_reducible rfl
  try simp only [Act.put, List.setIfInBounds_toArray, List.set_cons_zero, List.set_cons_succ]
  refine rz_take [14, 17, 18, 19, 20, 21, 22] (i := 13) (v := ?_) rfl (by kernel_rfl) (by kernel_rfl) (by kernel_rfl) (by kernel_rfl) (by kernel_rfl) (by kernel_rfl) (fun _ _ _ h => h) (by rfl) ?_ ?_
  rotate_left
  · intro W hW; have hW0 := Frm.tr E0g.out hW; clear hW; go_simp <;> with_reducible rfl
  try simp only [Act.put, List.setIfInBounds_toArray, List.set_cons_zero, List.set_cons_succ]
  refine rz_take [17, 18, 19, 20, 21, 22] (i := 14) (v := ?_) rfl (by kernel_rfl) (by kernel_rfl) (by kernel_rfl) (by kernel_rfl) (by kernel_rfl) (by kernel_rfl) (fun _ _ _ h => h) (by rfl) ?_ ?_
  rotate_left
  · intro W hW; have hW0 := Frm.tr E0g.out hW; clear hW; go_simp <;> with_reducible rfl
  try simp only [Act.put, List.setIfInBounds_toArray, List.set_cons_zero, List.set_cons_succ]
  refine rz_take [17, 18, 19, 20, 21, 22] (i := 15) (v := ?_) rfl (by kernel_rfl) (by kernel_rfl) (by kernel_rfl) (by kernel_rfl) (by kernel_rfl) (by kernel_rfl) (fun _ _ _ h => h) (by rfl) ?_ ?_
  rotate_left
  · intro W hW; have hW0 := Frm.tr E0g.out hW; clear hW; go_simp <;> with_reducible rfl
  try simp only [Act.put, List.setIfInBounds_toArray, List.set_cons_zero, List.set_cons_succ]
  refine rz_take [17, 18, 19, 20, 21, 22] (i := 16) (v := ?_) rfl (by kernel_rfl) (by kernel_rfl) (by kernel_rfl) (by kernel_rfl) (by kernel_rfl) (by kernel_rfl) (fun _ _ _ h => h) (by rfl) ?_ ?_
  rotate_left
  · intro W hW; have hW0 := Frm.tr E0g.out hW; clear hW; go_simp <;> with_reducible rfl
  try simp only [Act.put, List.setIfInBounds_toArray, List.set_cons_zero, List.set_cons_succ]
  refine rz_take [18, 19, 20, 21, 22] (i := 17) (v := ?_) rfl (by kernel_rfl) (by kernel_rfl) (by kernel_rfl) (by kernel_rfl) (by kernel_rfl) (by kernel_rfl) (fun _ _ _ h => h) (by rfl) ?_ ?_
  rotate_left
  · intro W hW; have hW0 := Frm.tr E0g.out hW; clear hW; go_simp <;> with_reducible rfl
  try simp only [Act.put, List.setIfInBounds_toArray, List.set_cons_zero, List.set_cons_succ]
  refine rz_call (i := 18) rfl (by kernel_rfl) (by rfl) (fun K hK => ?_)
  go_simp
  refine hK _ _ (Frm.of_alloc _ _ _) ?_; clear hK K
  obtain ⟨W3, hW3⟩ : ∃ W3, W3 = (W2.alloc (.cells #[.int .i64 2, .int .i64 sq, .bool true, .int .i64 xc, .int .i64 sq, .int .i64 xk, .int .i64 xi, .int .i64 xm, .string xd, .int .i64 rc, .int .i64 rv, .string rd, .slice A2 N c2, .int .i64 at_] 50)).drew := ⟨_, rfl⟩
  have KR3 : Hid (Blk W3 W2.drew.heap.size 50 #[.int .i64 2, .int .i64 sq, .bool true, .int .i64 xc, .int .i64 sq, .int .i64 xk, .int .i64 xi, .int .i64 xm, .string xd, .int .i64 rc, .int .i64 rv, .string rd, .slice A2 N c2, .int .i64 at_]) := by (show Blk _ _ _ _); rw [hW3]; exact Blk.new W2.drew _ _
  have X3 : Hid (Ext W2.drew W3) := by (show Ext _ _); rw [hW3]; exact Ext.alloc W2.drew _
  have E3 : Hid (Frm (fun k => some k = G) W2 W3) := Frm.tr E0g.out (Frm.of_below X3.out _)
  try rw [← hW3]
  clear hW3
  try simp only [Act.put, List.setIfInBounds_toArray, List.set_cons_zero, List.set_cons_succ]
  refine rz_call (i := 19) rfl (by kernel_rfl) (by rfl) (fun K hK => ?_)
  refine wp_append_wide (.tmp 57) (.tmp 71) 26 rfl base 50 _ 14 144 Try.underlying26 info_act rfl (by decide) (by decide) v L.length (flatA L) rfl (own_frmN HOWN2.out (Frm.of_below (Ext.trans Xe.out X3.out) (fun _ => False)) (fun _ _ h => h)) W2.drew.heap.size [.int .i64 2, .int .i64 sq, .bool true, .int .i64 xc, .int .i64 sq, .int .i64 xk, .int .i64 xi, .int .i64 xm, .string xd, .int .i64 rc, .int .i64 rv, .string rd, .slice A2 N c2, .int .i64 at_] rfl rfl KR3.out (by intro y hy; simp at hy; rcases hy with rfl | rfl | rfl | rfl | rfl | rfl | rfl | rfl | rfl | rfl | rfl | rfl | rfl | rfl <;> rfl) HLN.out (Nat.le_trans HBS.out (Nat.le_trans X2.out.size (Nat.le_trans Xe.out.size X3.out.size))) ?_
  intro v2 W4 oo gg bb
  obtain ⟨A3, cap3, hv3⟩ := own_shape oo
  subst hv3
  refine hK _ _ (Frm.of_grown gg (fun k hk => hk.trans HG.out)) ?_; clear hK K
  have O4 := Lib.hid oo
  have BB4 := Lib.hid bb
  have E4 : Hid (Frm (fun k => some k = G) W2 W4) := Frm.tr E3.out (Frm.of_grown gg (fun k hk => hk.trans HG.out))
  clear oo gg bb
  have KP4 : Hid (Blk W4 P 77 #[v, .int .i64 l0, .int .i64 l1, .int .i64 l2, .int .i64 l3, p0, p1, .pointer (some ⟨gq, 0, none⟩), p3]) := KP2.out.frm E4.out (fun e => HNP.out e)
  try simp only [Act.put, List.setIfInBounds_toArray, List.set_cons_zero, List.set_cons_succ]
  refine rz_take [21, 22] (i := 20) (v := ?_) rfl (by kernel_rfl) (by kernel_rfl) (by kernel_rfl) (by kernel_rfl) (by kernel_rfl) (by kernel_rfl) (fun _ _ _ h => h) (by rfl) ?_ ?_
  rotate_left
  · intro W hW; have hW0 := Frm.tr E4.out hW; clear hW; go_simp <;> with_reducible rfl
  try simp only [Act.put, List.setIfInBounds_toArray, List.set_cons_zero, List.set_cons_succ]
  refine rz_take [22] (i := 21) (v := ?_) rfl (by kernel_rfl) (by kernel_rfl) (by kernel_rfl) (by kernel_rfl) (by kernel_rfl) (by kernel_rfl) (fun _ _ _ h => h) (by rfl) ?_ ?_
  rotate_left
  · intro W hW; have hW0 := Frm.tr E4.out hW; clear hW; go_simp <;> with_reducible rfl
  try simp only [Act.put, List.setIfInBounds_toArray, List.set_cons_zero, List.set_cons_succ]
  refine rz_last (i := 22) rfl (by kernel_rfl) (by rfl) (by rfl) (fun K hK => ?_)
  have q1 := KP4.out.frozen 0
  have r1 := KP4.out.cell 0
  simp at r1
  go_simp
  refine hK _ _ ?_; clear hK K q1 r1
  obtain ⟨W5, hW5⟩ : ∃ W5, W5 = W4.setCell ⟨P, 0, none⟩ (.slice A3 (L.length + 1) cap3) := ⟨_, rfl⟩
  have KP5 : Hid (Blk W5 P 77 #[.slice A3 (L.length + 1) cap3, .int .i64 l0, .int .i64 l1, .int .i64 l2, .int .i64 l3, p0, p1, .pointer (some ⟨gq, 0, none⟩), p3]) := by (show Blk _ _ _ _); rw [hW5]; exact KP4.out.set 0 _
  have F5 : Hid (Frm (fun k => k = P) W4 W5) := by (show Frm _ _ _); rw [hW5]; exact Frm.of_set _ _ _ rfl
  try rw [← hW5]
  clear hW5
  try simp only [Act.put, List.setIfInBounds_toArray, List.set_cons_zero, List.set_cons_succ]
  refine rz_done (by kernel_rfl) ?_ _
  clear z0 z1 z2 z3 x0 x1 x2 x3 x4 x5 y0 y7
  have k5 := KP5.out.cell 7
  have g5 := KP5.out.frozen 7
  simp at k5
  go_wp2_with fail
  try go_ret
  obtain ⟨W6, hW6⟩ : ∃ W6, W6 = W5.setCell ⟨P, 7, none⟩ (.pointer none) := ⟨_, rfl⟩
  have KP6 : Blk W6 P 77 #[.slice A3 (L.length + 1) cap3, .int .i64 l0, .int .i64 l1, .int .i64 l2, .int .i64 l3, p0, p1, .pointer none, p3] := by rw [hW6]; exact KP5.out.set 7 _
  have F6 : Frm (fun k => k = P) W4 W6 := by rw [hW6]; exact Frm.tr F5.out (Frm.of_set _ _ _ rfl)
  try rw [← hW6]
  clear hW6
  have FA2 : Frm (Psel P G) W2 W6 := Frm.tr (E4.out.mono (fun k hk => Or.inr hk)) (F6.mono (fun k hk => Or.inl hk))
  have FA : Frm (Psel P G) w W6 := Frm.tr (Frm.of_below X2.out _) FA2
  have hkeep : ∀ k t cs, t = 29 ∨ t = 3 → Blk W2 k t cs → Blk W6 k t cs := fun k t cs ht h => h.frm FA2 (fun hh => by
    have ht2 : t ≠ 50 ∧ t ≠ 77 := by rcases ht with rfl | rfl <;> exact ⟨by decide, by decide⟩
    rcases hh with hh | hh
    · subst hh; exact Blk.apart h KP2.out ht2.2 rfl
    · exact hnG k t cs ht2.1 h hh)
  have hq5 : ∀ g cs, Blk w g 29 cs → Blk W6 g 29 cs := fun k cs h => hkeep k _ cs (.inl rfl) (h.stay X2.out)
  obtain ⟨h40, h41, h42, h43⟩ := HWT.out
  have O5 : W6.ownsRow base 50 14 (.slice A3 (L.length + 1) cap3) (L ++ [At.mk (Ac.mk 2 sq true (Rqv.mk xc sq xk xi xm xd) (Rpv.mk rc rv rd rl) at_) A2 c2]).length (flatA (L ++ [At.mk (Ac.mk 2 sq true (Rqv.mk xc sq xk xi xm xd) (Rpv.mk rc rv rd rl) at_) A2 c2])) := by
    rw [flatA_append, List.length_append]
    have h7 := own_frmN O4.out F6 (fun k hk e => own_blkne O4.out KP4.out (by decide) k hk e)
    have h8 : flatA [At.mk (Ac.mk 2 sq true (Rqv.mk xc sq xk xi xm xd) (Rpv.mk rc rv rd rl) at_) A2 c2] = [.int .i64 2, .int .i64 sq, .bool true, .int .i64 xc, .int .i64 sq, .int .i64 xk, .int .i64 xi, .int .i64 xm, .string xd, .int .i64 rc, .int .i64 rv, .string rd, .slice A2 N c2, .int .i64 at_] := by simp [flatA, acRow, HNN.out]
    rw [h8]
    exact h7
  refine hD.out _ _ ⟨rfl, _, ⟨HBP.out, .slice A3 (L.length + 1) cap3, l0, l1, l2, l3, p0, p1, .pointer none, p3, o0, o1, none, o3, L ++ [At.mk (Ac.mk 2 sq true (Rqv.mk xc sq xk xi xm xd) (Rpv.mk rc rv rd rl) at_) A2 c2], KP6, HLS.out, ?_, ⟨h40.of hq5, h41.of hq5, rfl, h43.of hq5⟩, O5, rfl, ?_, ?_⟩, FA, ?_⟩
  · show st.wait.set 2 none = _
    rw [HWS.out]; rfl
  · show _ = st.acts ++ [(⟨2, sq, true, (st.w 2).getD ⟨0, 0, 0, 0, 0, ⟨#[]⟩⟩, ⟨rc, rv, rd, rl⟩, at_⟩ : Ac)]
    rw [HOS.out, List.map_append, HL.out]; rfl
  · intro t ht
    rw [List.mem_append, List.mem_singleton] at ht
    rcases ht with ht | rfl
    · exact ((HIN.out t ht).stay X2.out).of (fun k cs h => hkeep k _ cs (.inr rfl) h)
    · exact IN2.out.of (fun k cs h => hkeep k _ cs (.inr rfl) h)
  · rcases BB4.out with h5 | h5
    · exact .inl (h5.trans HG.out)
    · exact .inr ⟨_, h5, Nat.le_trans X2.out.size (Nat.le_trans Xe.out.size X3.out.size)⟩

set_option maxRecDepth 4000 in
set_option maxHeartbeats 8000000 in
theorem ans_none3 (base P : Nat) (G : Option Nat) (st : Ps) (sq rc rv : Int) (rd : ByteArray) (rA : Option Addr) (rcap : Nat) (rl : List Int) (at_ : Int) (w : World) (H : PAt w base P G st) (h0 : ¬ at_ < 0) (h1 : ¬ 1073741824 < at_) (hs : st.w 3 = none) :
    Calls Try.prog 13 #[.pointer (some ⟨P, 0, none⟩), .int .i64 3, .int .i64 sq, .agg #[.int .i64 rc, .int .i64 rv, .string rd, .slice rA rl.length rcap], .int .i64 at_] w fun e w' => e = .returned (.int .i64 4) ∧ Ext w w' := by
  refine hide_post fun D hD => ?_
  generalize hN : rl.length = N at *
  obtain ⟨hbP, v, l0, l1, l2, l3, p0, p1, p2, p3, o0, o1, o2, o3, L, kP, hl, hw, hwt, hown, hG, hL, hin⟩ := H
  have ho : o3 = none := by unfold Ps.w at hs; rw [hw] at hs; exact hs
  obtain rfl : p3 = .pointer none := by have h5 := hwt.2.2.2; rw [ho] at h5; exact h5
  obtain ⟨w0, hw0⟩ : ∃ w0, w0 = w.alloc (.cells #[.int .i64 rc, .int .i64 rv, .string rd, .slice rA N rcap] 35) := ⟨_, rfl⟩
  have hb0 : Ext w w0 := by rw [hw0]; exact Ext.alloc _ _
  have HW := Lib.hid hw0
  have X0 : Hid (Ext w w0) := hb0
  have XA : Hid (Ext w (w.alloc (.cells #[.int .i64 rc, .int .i64 rv, .string rd, .slice rA N rcap] 35))) := Ext.alloc _ _
  have a8 : ∀ o, (w.alloc o).cell? ⟨P, 8, none⟩ = some (.pointer none) := fun o => (kP.stay (Ext.alloc w o)).cell 8
  have hplt := kP.lt
  clear hb0 hw0 kP hl hw hwt hown hG hL hin hs ho hbP hN
  go_enter Try.func13, Try.ntmps13
  go_wp2_with fail
  try go_ret
  exact hD.out _ _ ⟨rfl, XA.out⟩

set_option maxRecDepth 4000 in
set_option maxHeartbeats 8000000 in
theorem ans_other3 (base P : Nat) (G : Option Nat) (st : Ps) (sq rc rv : Int) (rd : ByteArray) (rA : Option Addr) (rcap : Nat) (rl : List Int) (at_ : Int) (xc xs xk xi xm : Int) (xd : ByteArray) (w : World) (H : PAt w base P G st) (h0 : ¬ at_ < 0) (h1 : ¬ 1073741824 < at_) (hs : st.w 3 = some ⟨xc, xs, xk, xi, xm, xd⟩) (hq : ¬ xs = sq) :
    Calls Try.prog 13 #[.pointer (some ⟨P, 0, none⟩), .int .i64 3, .int .i64 sq, .agg #[.int .i64 rc, .int .i64 rv, .string rd, .slice rA rl.length rcap], .int .i64 at_] w fun e w' => e = .returned (.int .i64 4) ∧ Ext w w' := by
  refine hide_post fun D hD => ?_
  generalize hN : rl.length = N at *
  obtain ⟨hbP, v, l0, l1, l2, l3, p0, p1, p2, p3, o0, o1, o2, o3, L, kP, hl, hw, hwt, hown, hG, hL, hin⟩ := H
  have ho : o3 = some ⟨xc, xs, xk, xi, xm, xd⟩ := by unfold Ps.w at hs; rw [hw] at hs; exact hs
  have h5 := hwt.2.2.2
  rw [ho] at h5
  obtain ⟨gq, rfl, hgq⟩ := h5
  obtain ⟨w0, hw0⟩ : ∃ w0, w0 = w.alloc (.cells #[.int .i64 rc, .int .i64 rv, .string rd, .slice rA N rcap] 35) := ⟨_, rfl⟩
  have hb0 : Ext w w0 := by rw [hw0]; exact Ext.alloc _ _
  have HW := Lib.hid hw0
  have X0 : Hid (Ext w w0) := hb0
  have XA : Hid (Ext w (w.alloc (.cells #[.int .i64 rc, .int .i64 rv, .string rd, .slice rA N rcap] 35))) := Ext.alloc _ _
  have a8 : ∀ o, (w.alloc o).cell? ⟨P, 8, none⟩ = some (.pointer (some ⟨gq, 0, none⟩)) := fun o => (kP.stay (Ext.alloc w o)).cell 8
  have b1 : ∀ o, (w.alloc o).cell? ⟨gq, 1, none⟩ = some (.int .i64 xs) := fun o => (hgq.stay (Ext.alloc w o)).cell 1
  have hplt := kP.lt
  have hglt := hgq.lt
  clear hb0 hw0 kP hl hw hwt hown hG hL hin hs ho hbP hN hgq
  go_enter Try.func13, Try.ntmps13
  go_wp2_with fail
  try go_ret
  exact hD.out _ _ ⟨rfl, XA.out⟩

set_option maxRecDepth 4000 in
set_option maxHeartbeats 8000000 in
theorem ans_ok3 (base P : Nat) (G : Option Nat) (st : Ps) (sq rc rv : Int) (rd : ByteArray) (rA : Option Addr) (rcap : Nat) (rl : List Int) (at_ : Int) (xc xk xi xm : Int) (xd : ByteArray) (w : World) (H : PAt w base P G st) (h0 : ¬ at_ < 0) (h1 : ¬ 1073741824 < at_) (hs : st.w 3 = some ⟨xc, sq, xk, xi, xm, xd⟩) (hn : st.acts.length ≤ 1000000) (hrl : rl.length ≤ 17592186043904) (hr : Sl i64 w rA rl) :
    Calls Try.prog 13 #[.pointer (some ⟨P, 0, none⟩), .int .i64 3, .int .i64 sq, .agg #[.int .i64 rc, .int .i64 rv, .string rd, .slice rA rl.length rcap], .int .i64 at_] w fun e w' => e = .returned (.int .i64 0) ∧ POut w w' base P G (ansS st 3 sq ⟨rc, rv, rd, rl⟩ at_) := by
  refine hide_post fun D hD => ?_
  generalize hN : rl.length = N at *
  have hlt := H.lt
  obtain ⟨hbP, v, l0, l1, l2, l3, p0, p1, p2, p3, o0, o1, o2, o3, L, kP, hl, hw, hwt, hown, hG, hL, hin⟩ := H
  have ho : o3 = some ⟨xc, sq, xk, xi, xm, xd⟩ := by unfold Ps.w at hs; rw [hw] at hs; exact hs
  have h5 := hwt.2.2.2
  rw [ho] at h5
  obtain ⟨gq, rfl, hgq⟩ := h5
  obtain ⟨w0, hw0⟩ : ∃ w0, w0 = w.alloc (.cells #[.int .i64 rc, .int .i64 rv, .string rd, .slice rA N rcap] 35) := ⟨_, rfl⟩
  have hb0 : Ext w w0 := by rw [hw0]; exact Ext.alloc _ _
  have HW := Lib.hid hw0
  have X0 : Hid (Ext w w0) := hb0
  have XA : Hid (Ext w (w.alloc (.cells #[.int .i64 rc, .int .i64 rv, .string rd, .slice rA N rcap] 35))) := Ext.alloc _ _
  have KR : Hid (Blk w0 w.heap.size 35 #[.int .i64 rc, .int .i64 rv, .string rd, .slice rA N rcap]) := by show Blk _ _ _ _; rw [hw0]; exact Blk.new _ _ _
  have CC : Hid (Calls Try.prog 38 #[.slice rA N rcap] w0 fun e w' => ∃ A c, e = .returned (.slice A N c) ∧ In w' A c rl ∧ Ext w0 w') := by
    have h6 := cloneI_big rA rcap rl w0 (by omega) (hr.stay hb0)
    rw [hN] at h6
    refine h6.mono ?_
    rintro e w' ⟨v, he, ho, hx⟩
    rw [← hN] at ho
    obtain ⟨A, c, rfl, hin⟩ := In.own ho
    rw [hN] at he
    exact ⟨A, c, he, hin, hx⟩
  have hLn : L.length ≤ 1000000000 := by have h5 := congrArg List.length hL; rw [List.length_map] at h5; omega
  have HLN : Hid (L.length ≤ 1000000000) := hLn
  have HNN := Lib.hid hN
  have HKPw := Lib.hid kP
  have HOWNw := Lib.hid hown
  have HKG := Lib.hid hgq
  have HWT := Lib.hid hwt
  have HG : Hid (v.ownBlock = G) := hG
  have HL := Lib.hid hL
  have HIN := Lib.hid hin
  have HBP : Hid (base ≤ P) := hbP
  have HBS : Hid (base ≤ w.heap.size) := Nat.le_trans hbP (Nat.le_of_lt hlt)
  have HLS := Lib.hid hl
  have HWS := Lib.hid hw
  have HOS : Hid (st.w 3 = some ⟨xc, sq, xk, xi, xm, xd⟩) := hs
  have HNP : Hid (¬ some P = G) := fun e => by
    obtain ⟨cs, hc⟩ := own_blk hown (hG.trans e.symm)
    exact Blk.apart kP hc (by decide) rfl
  obtain ⟨g, hg⟩ : ∃ g, g = w.heap.size := ⟨_, rfl⟩
  have HGG := Lib.hid hg
  have hgP : ¬ g = P := by omega
  have a8 : ∀ o, (w.alloc o).cell? ⟨P, 8, none⟩ = some (.pointer (some ⟨gq, 0, none⟩)) := fun o => (kP.stay (Ext.alloc w o)).cell 8
  have b1 : ∀ o, (w.alloc o).cell? ⟨gq, 1, none⟩ = some (.int .i64 sq) := fun o => (hgq.stay (Ext.alloc w o)).cell 1
  have hglt := hgq.lt
  have r3 : ∀ x y z u, (w.alloc (.cells #[x, y, z, u] 35)).cell? ⟨w.heap.size, 3, none⟩ = some u := fun x y z u => (Blk.new w _ _).cell 3
  have hplt := hlt
  clear hb0 hw0 kP hl hw hwt hown hG hL hin hs ho hlt hbP hLn hgq hn hrl hr hN hg
  go_enter Try.func13, Try.ntmps13
  go_upto_region 6 with (go_at_call 38; rw [← HW.out]; (with_reducible refine CC.out.mono ?_); rintro e w1 ⟨A2, c2, rfl, hin, hx⟩; have IN1 := Lib.hid hin; have X1 := Lib.hid hx; have KR1 := Lib.hid (KR.out.stay hx); have q3 := KR1.out.cell 3; have f3 := KR1.out.frozen 3; simp at q3; clear hin hx)
  rw [← HGG.out]
  obtain ⟨W2, hW2⟩ : ∃ W2, W2 = w1.setCell ⟨g, 3, none⟩ (.slice A2 N c2) := ⟨_, rfl⟩
  have HK1 : Hid (Blk w1 g 35 #[.int .i64 rc, .int .i64 rv, .string rd, .slice rA N rcap]) := by (show Blk _ _ _ _); rw [HGG.out]; exact KR1.out
  have KR2 : Hid (Blk W2 g 35 #[.int .i64 rc, .int .i64 rv, .string rd, .slice A2 N c2]) := by (show Blk _ _ _ _); rw [hW2]; exact HK1.out.set 3 _
  have FG : Hid (Frm (fun k => k = g) w1 W2) := by (show Frm _ _ _); rw [hW2]; exact Frm.of_set _ _ _ rfl
  have X2 : Hid (Ext w W2) := Frm.step (Ext.trans X0.out X1.out) FG.out (Ext.trans X0.out X1.out).size (by rintro k rfl; rw [HGG.out]; exact Nat.le_refl _)
  have IN2 : Hid (In W2 A2 c2 rl) := IN1.out.of (fun k cs h => h.frm FG.out (Blk.apart h HK1.out (by decide)))
  have KP2 := Lib.hid (HKPw.out.stay X2.out)
  have KG2 := Lib.hid (HKG.out.stay X2.out)
  have HOWN2 := Lib.hid (own_frmN HOWNw.out (Frm.of_below X2.out (fun _ => False)) (fun _ _ h => h))
  try rw [← hW2]
  clear hW2 q3 f3 a8 b1 r3
  have hnG : ∀ k t cs, t ≠ 50 → Blk W2 k t cs → ¬ some k = G := fun k t cs ht h e => by
    obtain ⟨cs', hc⟩ := own_blk HOWN2.out (HG.out.trans e.symm)
    exact Blk.apart h hc ht rfl
  have z0 : ∀ V, Frm (fun k => some k = G) W2 V → V.cell? ⟨g, 0, none⟩ = some (.int .i64 rc) := fun V h => ((KR2.out.frm h (hnG _ _ _ (by decide) KR2.out))).cell 0
  have z1 : ∀ V, Frm (fun k => some k = G) W2 V → V.cell? ⟨g, 1, none⟩ = some (.int .i64 rv) := fun V h => ((KR2.out.frm h (hnG _ _ _ (by decide) KR2.out))).cell 1
  have z2 : ∀ V, Frm (fun k => some k = G) W2 V → V.cell? ⟨g, 2, none⟩ = some (.string rd) := fun V h => ((KR2.out.frm h (hnG _ _ _ (by decide) KR2.out))).cell 2
  have z3 : ∀ V, Frm (fun k => some k = G) W2 V → V.cell? ⟨g, 3, none⟩ = some (.slice A2 N c2) := fun V h => ((KR2.out.frm h (hnG _ _ _ (by decide) KR2.out))).cell 3
  have x0 : ∀ V, Frm (fun k => some k = G) W2 V → V.cell? ⟨gq, 0, none⟩ = some (.int .i64 xc) := fun V h => ((KG2.out.frm h (hnG _ _ _ (by decide) KG2.out))).cell 0
  have x1 : ∀ V, Frm (fun k => some k = G) W2 V → V.cell? ⟨gq, 1, none⟩ = some (.int .i64 sq) := fun V h => ((KG2.out.frm h (hnG _ _ _ (by decide) KG2.out))).cell 1
  have x2 : ∀ V, Frm (fun k => some k = G) W2 V → V.cell? ⟨gq, 2, none⟩ = some (.int .i64 xk) := fun V h => ((KG2.out.frm h (hnG _ _ _ (by decide) KG2.out))).cell 2
  have x3 : ∀ V, Frm (fun k => some k = G) W2 V → V.cell? ⟨gq, 3, none⟩ = some (.int .i64 xi) := fun V h => ((KG2.out.frm h (hnG _ _ _ (by decide) KG2.out))).cell 3
  have x4 : ∀ V, Frm (fun k => some k = G) W2 V → V.cell? ⟨gq, 4, none⟩ = some (.int .i64 xm) := fun V h => ((KG2.out.frm h (hnG _ _ _ (by decide) KG2.out))).cell 4
  have x5 : ∀ V, Frm (fun k => some k = G) W2 V → V.cell? ⟨gq, 5, none⟩ = some (.string xd) := fun V h => ((KG2.out.frm h (hnG _ _ _ (by decide) KG2.out))).cell 5
  have y0 : ∀ V, Frm (fun k => some k = G) W2 V → V.cell? ⟨P, 0, none⟩ = some (v) := fun V h => ((KP2.out.frm h HNP.out)).cell 0
  have y8 : ∀ V, Frm (fun k => some k = G) W2 V → V.cell? ⟨P, 8, none⟩ = some (.pointer (some ⟨gq, 0, none⟩)) := fun V h => ((KP2.out.frm h HNP.out)).cell 8
  have Xe : Hid (Ext W2 W2.drew) := (Ext.refl _).drewR
  have E0g : Hid (Frm (fun k => some k = G) W2 W2.drew) := Frm.of_below Xe.out _
  refine rz_begin (fun k => some k = G) [22] (by kernel_rfl) ?_
  refine rz_take [20, 21, 22] (i := 0) (v := ?_) rfl (by kernel_rfl) (by kernel_rfl) (by kernel_rfl) (by kernel_rfl) (by kernel_rfl) (by kernel_rfl) (fun _ _ _ h => h) (by rfl) ?_ ?_
  rotate_left
  · intro W hW; have hW0 := Frm.tr E0g.out hW; clear hW; go_simp <;> with_reducible rfl
  try simp only [Act.put, List.setIfInBounds_toArray, List.set_cons_zero, List.set_cons_succ]
  refine rz_take [2, 3, 4, 19, 20, 21, 22] (i := 1) (v := ?_) rfl (by kernel_rfl) (by kernel_rfl) (by kernel_rfl) (by kernel_rfl) (by kernel_rfl) (by kernel_rfl) (fun _ _ _ h => h) (by rfl) ?_ ?_
  rotate_left
  · intro W hW; have hW0 := Frm.tr E0g.out hW; clear hW; go_simp <;> with_reducible rfl
  try simp only [Act.put, List.setIfInBounds_toArray, List.set_cons_zero, List.set_cons_succ]
  refine rz_take [3, 4, 19, 20, 21, 22] (i := 2) (v := ?_) rfl (by kernel_rfl) (by kernel_rfl) (by kernel_rfl) (by kernel_rfl) (by kernel_rfl) (by kernel_rfl) (fun _ _ _ h => h) (by rfl) ?_ ?_
  rotate_left
  · intro W hW; have hW0 := Frm.tr E0g.out hW; clear hW; go_simp <;> with_reducible rfl
  try simp only [Act.put, List.setIfInBounds_toArray, List.set_cons_zero, List.set_cons_succ]
  refine rz_take [4, 19, 20, 21, 22] (i := 3) (v := ?_) rfl (by kernel_rfl) (by kernel_rfl) (by kernel_rfl) (by kernel_rfl) (by kernel_rfl) (by kernel_rfl) (fun _ _ _ h => h) (by rfl) ?_ ?_
  rotate_left
  · intro W hW; have hW0 := Frm.tr E0g.out hW; clear hW; go_simp <;> with_reducible rfl
  try simp only [Act.put, List.setIfInBounds_toArray, List.set_cons_zero, List.set_cons_succ]
  refine rz_take [19, 20, 21, 22] (i := 4) (v := ?_) rfl (by kernel_rfl) (by kernel_rfl) (by kernel_rfl) (by kernel_rfl) (by kernel_rfl) (by kernel_rfl) (fun _ _ _ h => h) (by rfl) ?_ ?_
  rotate_left
  · intro W hW; have hW0 := Frm.tr E0g.out hW; clear hW; go_simp <;> with_reducible rfl
  try simp only [Act.put, List.setIfInBounds_toArray, List.set_cons_zero, List.set_cons_succ]
  refine rz_take [17, 18, 19, 20, 21, 22] (i := 5) (v := ?_) rfl (by kernel_rfl) (by kernel_rfl) (by kernel_rfl) (by kernel_rfl) (by kernel_rfl) (by kernel_rfl) (fun _ _ _ h => h) (by rfl) ?_ ?_
  rotate_left
  · intro W hW; have hW0 := Frm.tr E0g.out hW; clear hW; go_simp <;> with_reducible rfl
  try simp only [Act.put, List.setIfInBounds_toArray, List.set_cons_zero, List.set_cons_succ]
  refine rz_take [17, 18, 19, 20, 21, 22] (i := 6) (v := ?_) rfl (by kernel_rfl) (by kernel_rfl) (by kernel_rfl) (by kernel_rfl) (by kernel_rfl) (by kernel_rfl) (fun _ _ _ h => h) (by rfl) ?_ ?_
  rotate_left
  · intro W hW; have hW0 := Frm.tr E0g.out hW; clear hW; go_simp <;> with_reducible rfl
  try simp only [Act.put, List.setIfInBounds_toArray, List.set_cons_zero, List.set_cons_succ]
  refine rz_take [9, 10, 11, 12, 13, 14, 17, 18, 19, 20, 21, 22] (i := 7) (v := ?_) rfl (by kernel_rfl) (by kernel_rfl) (by kernel_rfl) (by kernel_rfl) (by kernel_rfl) (by kernel_rfl) (fun _ _ _ h => h) (by rfl) ?_ ?_
  rotate_left
  · intro W hW; have hW0 := Frm.tr E0g.out hW; clear hW; go_simp <;> with_reducible rfl
  try simp only [Act.put, List.setIfInBounds_toArray, List.set_cons_zero, List.set_cons_succ]
  refine rz_take [11, 12, 13, 14, 17, 18, 19, 20, 21, 22] (i := 8) (v := ?_) rfl (by kernel_rfl) (by kernel_rfl) (by kernel_rfl) (by kernel_rfl) (by kernel_rfl) (by kernel_rfl) (fun _ _ _ h => h) (by rfl) ?_ ?_
  rotate_left
  · intro W hW; have hW0 := Frm.tr E0g.out hW; clear hW; go_simp <;> with_reducible rfl
  try simp only [Act.put, List.setIfInBounds_toArray, List.set_cons_zero, List.set_cons_succ]
  refine rz_take [10, 11, 12, 13, 14, 17, 18, 19, 20, 21, 22] (i := 9) (v := ?_) rfl (by kernel_rfl) (by kernel_rfl) (by kernel_rfl) (by kernel_rfl) (by kernel_rfl) (by kernel_rfl) (fun _ _ _ h => h) (by rfl) ?_ ?_
  rotate_left
  · intro W hW; have hW0 := Frm.tr E0g.out hW; clear hW; go_simp <;> with_reducible rfl
  try simp only [Act.put, List.setIfInBounds_toArray, List.set_cons_zero, List.set_cons_succ]
  refine rz_take [11, 12, 13, 14, 17, 18, 19, 20, 21, 22] (i := 10) (v := ?_) rfl (by kernel_rfl) (by kernel_rfl) (by kernel_rfl) (by kernel_rfl) (by kernel_rfl) (by kernel_rfl) (fun _ _ _ h => h) (by rfl) ?_ ?_
  rotate_left
  · intro W hW; have hW0 := Frm.tr E0g.out hW; clear hW; go_simp <;> with_reducible rfl
  try simp only [Act.put, List.setIfInBounds_toArray, List.set_cons_zero, List.set_cons_succ]
  refine rz_take [12, 13, 14, 17, 18, 19, 20, 21, 22] (i := 11) (v := ?_) rfl (by kernel_rfl) (by kernel_rfl) (by kernel_rfl) (by kernel_rfl) (by kernel_rfl) (by kernel_rfl) (fun _ _ _ h => h) (by rfl) ?_ ?_
  rotate_left
  · intro W hW; have hW0 := Frm.tr E0g.out hW; clear hW; go_simp <;> with_reducible rfl
  try simp only [Act.put, List.setIfInBounds_toArray, List.set_cons_zero, List.set_cons_succ]
  refine rz_take [13, 14, 17, 18, 19, 20, 21, 22] (i := 12) (v := ?_) rfl (by kernel_rfl) (by kernel_rfl) (by kernel_rfl) (by kernel_rfl) (by kernel_rfl) (by kernel_rfl) (fun _ _ _ h => h) (by rfl) ?_ ?_
  rotate_left
  · intro W hW; have hW0 := Frm.tr E0g.out hW; clear hW; go_simp <;> with_reducible rfl
  try simp only [Act.put, List.setIfInBounds_toArray, List.set_cons_zero, List.set_cons_succ]
  refine rz_take [14, 17, 18, 19, 20, 21, 22] (i := 13) (v := ?_) rfl (by kernel_rfl) (by kernel_rfl) (by kernel_rfl) (by kernel_rfl) (by kernel_rfl) (by kernel_rfl) (fun _ _ _ h => h) (by rfl) ?_ ?_
  rotate_left
  · intro W hW; have hW0 := Frm.tr E0g.out hW; clear hW; go_simp <;> with_reducible rfl
  try simp only [Act.put, List.setIfInBounds_toArray, List.set_cons_zero, List.set_cons_succ]
  refine rz_take [17, 18, 19, 20, 21, 22] (i := 14) (v := ?_) rfl (by kernel_rfl) (by kernel_rfl) (by kernel_rfl) (by kernel_rfl) (by kernel_rfl) (by kernel_rfl) (fun _ _ _ h => h) (by rfl) ?_ ?_
  rotate_left
  · intro W hW; have hW0 := Frm.tr E0g.out hW; clear hW; go_simp <;> with_reducible rfl
  try simp only [Act.put, List.setIfInBounds_toArray, List.set_cons_zero, List.set_cons_succ]
  refine rz_take [17, 18, 19, 20, 21, 22] (i := 15) (v := ?_) rfl (by kernel_rfl) (by kernel_rfl) (by kernel_rfl) (by kernel_rfl) (by kernel_rfl) (by kernel_rfl) (fun _ _ _ h => h) (by rfl) ?_ ?_
  rotate_left
  · intro W hW; have hW0 := Frm.tr E0g.out hW; clear hW; go_simp <;> with_reducible rfl
  try simp only [Act.put, List.setIfInBounds_toArray, List.set_cons_zero, List.set_cons_succ]
  refine rz_take [17, 18, 19, 20, 21, 22] (i := 16) (v := ?_) rfl (by kernel_rfl) (by kernel_rfl) (by kernel_rfl) (by kernel_rfl) (by kernel_rfl) (by kernel_rfl) (fun _ _ _ h => h) (by rfl) ?_ ?_
  rotate_left
  · intro W hW; have hW0 := Frm.tr E0g.out hW; clear hW; go_simp <;> with_reducible rfl
  try simp only [Act.put, List.setIfInBounds_toArray, List.set_cons_zero, List.set_cons_succ]
  refine rz_take [18, 19, 20, 21, 22] (i := 17) (v := ?_) rfl (by kernel_rfl) (by kernel_rfl) (by kernel_rfl) (by kernel_rfl) (by kernel_rfl) (by kernel_rfl) (fun _ _ _ h => h) (by rfl) ?_ ?_
  rotate_left
  · intro W hW; have hW0 := Frm.tr E0g.out hW; clear hW; go_simp <;> with_reducible rfl
  try simp only [Act.put, List.setIfInBounds_toArray, List.set_cons_zero, List.set_cons_succ]
  refine rz_call (i := 18) rfl (by kernel_rfl) (by rfl) (fun K hK => ?_)
  go_simp
  refine hK _ _ (Frm.of_alloc _ _ _) ?_; clear hK K
  obtain ⟨W3, hW3⟩ : ∃ W3, W3 = (W2.alloc (.cells #[.int .i64 3, .int .i64 sq, .bool true, .int .i64 xc, .int .i64 sq, .int .i64 xk, .int .i64 xi, .int .i64 xm, .string xd, .int .i64 rc, .int .i64 rv, .string rd, .slice A2 N c2, .int .i64 at_] 50)).drew := ⟨_, rfl⟩
  have KR3 : Hid (Blk W3 W2.drew.heap.size 50 #[.int .i64 3, .int .i64 sq, .bool true, .int .i64 xc, .int .i64 sq, .int .i64 xk, .int .i64 xi, .int .i64 xm, .string xd, .int .i64 rc, .int .i64 rv, .string rd, .slice A2 N c2, .int .i64 at_]) := by (show Blk _ _ _ _); rw [hW3]; exact Blk.new W2.drew _ _
  have X3 : Hid (Ext W2.drew W3) := by (show Ext _ _); rw [hW3]; exact Ext.alloc W2.drew _
  have E3 : Hid (Frm (fun k => some k = G) W2 W3) := Frm.tr E0g.out (Frm.of_below X3.out _)
  try rw [← hW3]
  clear hW3
  try simp only [Act.put, List.setIfInBounds_toArray, List.set_cons_zero, List.set_cons_succ]
  refine rz_call (i := 19) rfl (by kernel_rfl) (by rfl) (fun K hK => ?_)
  refine wp_append_wide (.tmp 57) (.tmp 71) 26 rfl base 50 _ 14 144 Try.underlying26 info_act rfl (by decide) (by decide) v L.length (flatA L) rfl (own_frmN HOWN2.out (Frm.of_below (Ext.trans Xe.out X3.out) (fun _ => False)) (fun _ _ h => h)) W2.drew.heap.size [.int .i64 3, .int .i64 sq, .bool true, .int .i64 xc, .int .i64 sq, .int .i64 xk, .int .i64 xi, .int .i64 xm, .string xd, .int .i64 rc, .int .i64 rv, .string rd, .slice A2 N c2, .int .i64 at_] rfl rfl KR3.out (by intro y hy; simp at hy; rcases hy with rfl | rfl | rfl | rfl | rfl | rfl | rfl | rfl | rfl | rfl | rfl | rfl | rfl | rfl <;> rfl) HLN.out (Nat.le_trans HBS.out (Nat.le_trans X2.out.size (Nat.le_trans Xe.out.size X3.out.size))) ?_
  intro v2 W4 oo gg bb
  obtain ⟨A3, cap3, hv3⟩ := own_shape oo
  subst hv3
  refine hK _ _ (Frm.of_grown gg (fun k hk => hk.trans HG.out)) ?_; clear hK K
  have O4 := Lib.hid oo
  have BB4 := Lib.hid bb
  have E4 : Hid (Frm (fun k => some k = G) W2 W4) := Frm.tr E3.out (Frm.of_grown gg (fun k hk => hk.trans HG.out))
  clear oo gg bb
  have KP4 : Hid (Blk W4 P 77 #[v, .int .i64 l0, .int .i64 l1, .int .i64 l2, .int .i64 l3, p0, p1, p2, .pointer (some ⟨gq, 0, none⟩)]) := KP2.out.frm E4.out (fun e => HNP.out e)
  try simp only [Act.put, List.setIfInBounds_toArray, List.set_cons_zero, List.set_cons_succ]
  refine rz_take [21, 22] (i := 20) (v := ?_) rfl (by kernel_rfl) (by kernel_rfl) (by kernel_rfl) (by kernel_rfl) (by kernel_rfl) (by kernel_rfl) (fun _ _ _ h => h) (by rfl) ?_ ?_
  rotate_left
  · intro W hW; have hW0 := Frm.tr E4.out hW; clear hW; go_simp <;> with_reducible rfl
  try simp only [Act.put, List.setIfInBounds_toArray, List.set_cons_zero, List.set_cons_succ]
  refine rz_take [22] (i := 21) (v := ?_) rfl (by kernel_rfl) (by kernel_rfl) (by kernel_rfl) (by kernel_rfl) (by kernel_rfl) (by kernel_rfl) (fun _ _ _ h => h) (by rfl) ?_ ?_
  rotate_left
  · intro W hW; have hW0 := Frm.tr E4.out hW; clear hW; go_simp <;> with_reducible rfl
  try simp only [Act.put, List.setIfInBounds_toArray, List.set_cons_zero, List.set_cons_succ]
  refine rz_last (i := 22) rfl (by kernel_rfl) (by rfl) (by rfl) (fun K hK => ?_)
  have q1 := KP4.out.frozen 0
  have r1 := KP4.out.cell 0
  simp at r1
  go_simp
  refine hK _ _ ?_; clear hK K q1 r1
  obtain ⟨W5, hW5⟩ : ∃ W5, W5 = W4.setCell ⟨P, 0, none⟩ (.slice A3 (L.length + 1) cap3) := ⟨_, rfl⟩
  have KP5 : Hid (Blk W5 P 77 #[.slice A3 (L.length + 1) cap3, .int .i64 l0, .int .i64 l1, .int .i64 l2, .int .i64 l3, p0, p1, p2, .pointer (some ⟨gq, 0, none⟩)]) := by (show Blk _ _ _ _); rw [hW5]; exact KP4.out.set 0 _
  have F5 : Hid (Frm (fun k => k = P) W4 W5) := by (show Frm _ _ _); rw [hW5]; exact Frm.of_set _ _ _ rfl
  try rw [← hW5]
  clear hW5
  try simp only [Act.put, List.setIfInBounds_toArray, List.set_cons_zero, List.set_cons_succ]
  refine rz_done (by kernel_rfl) ?_ _
  clear z0 z1 z2 z3 x0 x1 x2 x3 x4 x5 y0 y8
  have k5 := KP5.out.cell 8
  have g5 := KP5.out.frozen 8
  simp at k5
  go_wp2_with fail
  try go_ret
  obtain ⟨W6, hW6⟩ : ∃ W6, W6 = W5.setCell ⟨P, 8, none⟩ (.pointer none) := ⟨_, rfl⟩
  have KP6 : Blk W6 P 77 #[.slice A3 (L.length + 1) cap3, .int .i64 l0, .int .i64 l1, .int .i64 l2, .int .i64 l3, p0, p1, p2, .pointer none] := by rw [hW6]; exact KP5.out.set 8 _
  have F6 : Frm (fun k => k = P) W4 W6 := by rw [hW6]; exact Frm.tr F5.out (Frm.of_set _ _ _ rfl)
  try rw [← hW6]
  clear hW6
  have FA2 : Frm (Psel P G) W2 W6 := Frm.tr (E4.out.mono (fun k hk => Or.inr hk)) (F6.mono (fun k hk => Or.inl hk))
  have FA : Frm (Psel P G) w W6 := Frm.tr (Frm.of_below X2.out _) FA2
  have hkeep : ∀ k t cs, t = 29 ∨ t = 3 → Blk W2 k t cs → Blk W6 k t cs := fun k t cs ht h => h.frm FA2 (fun hh => by
    have ht2 : t ≠ 50 ∧ t ≠ 77 := by rcases ht with rfl | rfl <;> exact ⟨by decide, by decide⟩
    rcases hh with hh | hh
    · subst hh; exact Blk.apart h KP2.out ht2.2 rfl
    · exact hnG k t cs ht2.1 h hh)
  have hq5 : ∀ g cs, Blk w g 29 cs → Blk W6 g 29 cs := fun k cs h => hkeep k _ cs (.inl rfl) (h.stay X2.out)
  obtain ⟨h40, h41, h42, h43⟩ := HWT.out
  have O5 : W6.ownsRow base 50 14 (.slice A3 (L.length + 1) cap3) (L ++ [At.mk (Ac.mk 3 sq true (Rqv.mk xc sq xk xi xm xd) (Rpv.mk rc rv rd rl) at_) A2 c2]).length (flatA (L ++ [At.mk (Ac.mk 3 sq true (Rqv.mk xc sq xk xi xm xd) (Rpv.mk rc rv rd rl) at_) A2 c2])) := by
    rw [flatA_append, List.length_append]
    have h7 := own_frmN O4.out F6 (fun k hk e => own_blkne O4.out KP4.out (by decide) k hk e)
    have h8 : flatA [At.mk (Ac.mk 3 sq true (Rqv.mk xc sq xk xi xm xd) (Rpv.mk rc rv rd rl) at_) A2 c2] = [.int .i64 3, .int .i64 sq, .bool true, .int .i64 xc, .int .i64 sq, .int .i64 xk, .int .i64 xi, .int .i64 xm, .string xd, .int .i64 rc, .int .i64 rv, .string rd, .slice A2 N c2, .int .i64 at_] := by simp [flatA, acRow, HNN.out]
    rw [h8]
    exact h7
  refine hD.out _ _ ⟨rfl, _, ⟨HBP.out, .slice A3 (L.length + 1) cap3, l0, l1, l2, l3, p0, p1, p2, .pointer none, o0, o1, o2, none, L ++ [At.mk (Ac.mk 3 sq true (Rqv.mk xc sq xk xi xm xd) (Rpv.mk rc rv rd rl) at_) A2 c2], KP6, HLS.out, ?_, ⟨h40.of hq5, h41.of hq5, h42.of hq5, rfl⟩, O5, rfl, ?_, ?_⟩, FA, ?_⟩
  · show st.wait.set 3 none = _
    rw [HWS.out]; rfl
  · show _ = st.acts ++ [(⟨3, sq, true, (st.w 3).getD ⟨0, 0, 0, 0, 0, ⟨#[]⟩⟩, ⟨rc, rv, rd, rl⟩, at_⟩ : Ac)]
    rw [HOS.out, List.map_append, HL.out]; rfl
  · intro t ht
    rw [List.mem_append, List.mem_singleton] at ht
    rcases ht with ht | rfl
    · exact ((HIN.out t ht).stay X2.out).of (fun k cs h => hkeep k _ cs (.inr rfl) h)
    · exact IN2.out.of (fun k cs h => hkeep k _ cs (.inr rfl) h)
  · rcases BB4.out with h5 | h5
    · exact .inl (h5.trans HG.out)
    · exact .inr ⟨_, h5, Nat.le_trans X2.out.size (Nat.le_trans Xe.out.size X3.out.size)⟩


end Go.Proofs.Ytnionfddejaalaa
