/-
  Answer of the document's past (law 22).
-/
import Derived.Test.YtnionfddejaalaaRefPastAsk
import Derived.Test.YtnionfddejaalaaSet
import Derived.Deep.Cut
namespace Go.Proofs.Ytnionfddejaalaa
set_option linter.unusedVariables false
set_option linter.unusedSimpArgs false
open Go.RowKit

set_option maxRecDepth 8000 in
set_option maxHeartbeats 8000000 in
theorem rans_lo (base P : Nat) (G : Option Nat) (st : Ps) (sq rc rv : Int) (rd : ByteArray) (rA : Option Addr) (rcap : Nat) (rl : List Int) (at_ : Int) (c : Int) (w : World) (H : RAt w base P G st) (h1 : at_ < 0) :
    Calls Try.prog 14 #[.pointer (some ⟨P, 0, none⟩), .int .i64 c, .int .i64 sq, .agg #[.int .i64 rc, .int .i64 rv, .string rd, .slice rA rl.length rcap], .int .i64 at_] w fun e w' => e = .returned (.int .i64 1) ∧ Ext w w' := by
  refine hide_post fun D hD => ?_
  generalize hN : rl.length = N at *
  obtain ⟨w0, hw0⟩ : ∃ w0, w0 = w.alloc (.cells #[.int .i64 rc, .int .i64 rv, .string rd, .slice rA N rcap] 35) := ⟨_, rfl⟩
  have hb0 : Ext w w0 := by rw [hw0]; exact Ext.alloc _ _
  have HW := Lib.hid hw0
  have X0 : Hid (Ext w w0) := hb0
  have XA : Hid (Ext w (w.alloc (.cells #[.int .i64 rc, .int .i64 rv, .string rd, .slice rA N rcap] 35))) := Ext.alloc _ _
  clear H hb0 hw0 hN
  go_enter Try.func14, Try.ntmps14
  go_wp2_with fail
  try go_ret
  exact hD.out _ _ ⟨rfl, XA.out⟩

set_option maxRecDepth 8000 in
set_option maxHeartbeats 8000000 in
theorem rans_hi (base P : Nat) (G : Option Nat) (st : Ps) (sq rc rv : Int) (rd : ByteArray) (rA : Option Addr) (rcap : Nat) (rl : List Int) (at_ : Int) (c : Int) (w : World) (H : RAt w base P G st) (h0 : ¬ at_ < 0) (h1 : 1073741824 < at_) :
    Calls Try.prog 14 #[.pointer (some ⟨P, 0, none⟩), .int .i64 c, .int .i64 sq, .agg #[.int .i64 rc, .int .i64 rv, .string rd, .slice rA rl.length rcap], .int .i64 at_] w fun e w' => e = .returned (.int .i64 1) ∧ Ext w w' := by
  refine hide_post fun D hD => ?_
  generalize hN : rl.length = N at *
  obtain ⟨w0, hw0⟩ : ∃ w0, w0 = w.alloc (.cells #[.int .i64 rc, .int .i64 rv, .string rd, .slice rA N rcap] 35) := ⟨_, rfl⟩
  have hb0 : Ext w w0 := by rw [hw0]; exact Ext.alloc _ _
  have HW := Lib.hid hw0
  have X0 : Hid (Ext w w0) := hb0
  have XA : Hid (Ext w (w.alloc (.cells #[.int .i64 rc, .int .i64 rv, .string rd, .slice rA N rcap] 35))) := Ext.alloc _ _
  clear H hb0 hw0 hN
  go_enter Try.func14, Try.ntmps14
  go_wp2_with fail
  try go_ret
  exact hD.out _ _ ⟨rfl, XA.out⟩

set_option maxRecDepth 8000 in
set_option maxHeartbeats 8000000 in
theorem rans_clo (base P : Nat) (G : Option Nat) (st : Ps) (sq rc rv : Int) (rd : ByteArray) (rA : Option Addr) (rcap : Nat) (rl : List Int) (at_ : Int) (c : Int) (w : World) (H : RAt w base P G st) (h0 : ¬ at_ < 0) (h1 : ¬ 1073741824 < at_) (h2 : c < 0) :
    Calls Try.prog 14 #[.pointer (some ⟨P, 0, none⟩), .int .i64 c, .int .i64 sq, .agg #[.int .i64 rc, .int .i64 rv, .string rd, .slice rA rl.length rcap], .int .i64 at_] w fun e w' => e = .returned (.int .i64 4) ∧ Ext w w' := by
  refine hide_post fun D hD => ?_
  generalize hN : rl.length = N at *
  obtain ⟨w0, hw0⟩ : ∃ w0, w0 = w.alloc (.cells #[.int .i64 rc, .int .i64 rv, .string rd, .slice rA N rcap] 35) := ⟨_, rfl⟩
  have hb0 : Ext w w0 := by rw [hw0]; exact Ext.alloc _ _
  have HW := Lib.hid hw0
  have X0 : Hid (Ext w w0) := hb0
  have XA : Hid (Ext w (w.alloc (.cells #[.int .i64 rc, .int .i64 rv, .string rd, .slice rA N rcap] 35))) := Ext.alloc _ _
  clear H hb0 hw0 hN
  go_enter Try.func14, Try.ntmps14
  go_wp2_with fail
  try go_ret
  exact hD.out _ _ ⟨rfl, XA.out⟩

set_option maxRecDepth 8000 in
set_option maxHeartbeats 8000000 in
theorem rans_chi (base P : Nat) (G : Option Nat) (st : Ps) (sq rc rv : Int) (rd : ByteArray) (rA : Option Addr) (rcap : Nat) (rl : List Int) (at_ : Int) (c : Int) (w : World) (H : RAt w base P G st) (h0 : ¬ at_ < 0) (h1 : ¬ 1073741824 < at_) (h2 : ¬ c < 0) (h3 : 4 ≤ c) :
    Calls Try.prog 14 #[.pointer (some ⟨P, 0, none⟩), .int .i64 c, .int .i64 sq, .agg #[.int .i64 rc, .int .i64 rv, .string rd, .slice rA rl.length rcap], .int .i64 at_] w fun e w' => e = .returned (.int .i64 4) ∧ Ext w w' := by
  refine hide_post fun D hD => ?_
  generalize hN : rl.length = N at *
  obtain ⟨w0, hw0⟩ : ∃ w0, w0 = w.alloc (.cells #[.int .i64 rc, .int .i64 rv, .string rd, .slice rA N rcap] 35) := ⟨_, rfl⟩
  have hb0 : Ext w w0 := by rw [hw0]; exact Ext.alloc _ _
  have HW := Lib.hid hw0
  have X0 : Hid (Ext w w0) := hb0
  have XA : Hid (Ext w (w.alloc (.cells #[.int .i64 rc, .int .i64 rv, .string rd, .slice rA N rcap] 35))) := Ext.alloc _ _
  clear H hb0 hw0 hN
  go_enter Try.func14, Try.ntmps14
  go_wp2_with fail
  try go_ret
  exact hD.out _ _ ⟨rfl, XA.out⟩

set_option maxRecDepth 8000 in
set_option maxHeartbeats 8000000 in
theorem rans_none0 (base P : Nat) (G : Option Nat) (st : Ps) (sq rc rv : Int) (rd : ByteArray) (rA : Option Addr) (rcap : Nat) (rl : List Int) (at_ : Int) (w : World) (H : RAt w base P G st) (h0 : ¬ at_ < 0) (h1 : ¬ 1073741824 < at_) (hs : st.w 0 = none) :
    Calls Try.prog 14 #[.pointer (some ⟨P, 0, none⟩), .int .i64 0, .int .i64 sq, .agg #[.int .i64 rc, .int .i64 rv, .string rd, .slice rA rl.length rcap], .int .i64 at_] w fun e w' => e = .returned (.int .i64 4) ∧ Ext w w' := by
  refine hide_post fun D hD => ?_
  generalize hN : rl.length = N at *
  obtain ⟨hbP, v, l0, l1, l2, l3, o0, o1, o2, o3, L, kP, hl, hw, hown, hG, hL, hin⟩ := H
  have ho : o0 = none := by unfold Ps.w at hs; rw [hw] at hs; exact hs
  subst ho
  obtain ⟨w0, hw0⟩ : ∃ w0, w0 = w.alloc (.cells #[.int .i64 rc, .int .i64 rv, .string rd, .slice rA N rcap] 35) := ⟨_, rfl⟩
  have hb0 : Ext w w0 := by rw [hw0]; exact Ext.alloc _ _
  have HW := Lib.hid hw0
  have X0 : Hid (Ext w w0) := hb0
  have XA : Hid (Ext w (w.alloc (.cells #[.int .i64 rc, .int .i64 rv, .string rd, .slice rA N rcap] 35))) := Ext.alloc _ _
  have a6 : ∀ o, (w.alloc o).cell? ⟨P, 6, none⟩ = some (.int .i64 0) := fun o => (kP.stay (Ext.alloc w o)).cell 6
  have hplt := kP.lt
  clear hb0 hw0 kP hl hw hown hG hL hin hs hbP hN
  go_enter Try.func14, Try.ntmps14
  go_wp2_with fail
  try go_ret
  exact hD.out _ _ ⟨rfl, XA.out⟩

set_option maxRecDepth 8000 in
set_option maxHeartbeats 8000000 in
theorem rans_other0 (base P : Nat) (G : Option Nat) (st : Ps) (sq rc rv : Int) (rd : ByteArray) (rA : Option Addr) (rcap : Nat) (rl : List Int) (at_ : Int) (xc xs xk xi xm : Int) (xd : ByteArray) (w : World) (H : RAt w base P G st) (h0 : ¬ at_ < 0) (h1 : ¬ 1073741824 < at_) (hs : st.w 0 = some ⟨xc, xs, xk, xi, xm, xd⟩) (hx1 : 1 ≤ xs) (hq : ¬ xs = sq) :
    Calls Try.prog 14 #[.pointer (some ⟨P, 0, none⟩), .int .i64 0, .int .i64 sq, .agg #[.int .i64 rc, .int .i64 rv, .string rd, .slice rA rl.length rcap], .int .i64 at_] w fun e w' => e = .returned (.int .i64 4) ∧ Ext w w' := by
  refine hide_post fun D hD => ?_
  generalize hN : rl.length = N at *
  obtain ⟨hbP, v, l0, l1, l2, l3, o0, o1, o2, o3, L, kP, hl, hw, hown, hG, hL, hin⟩ := H
  have ho : o0 = some ⟨xc, xs, xk, xi, xm, xd⟩ := by unfold Ps.w at hs; rw [hw] at hs; exact hs
  subst ho
  have hx0 : ¬ xs = 0 := by omega
  have hq1 : (xs == sq) = false := by simp [hq]
  have hx01 : (xs == 0) = false := by simp [hx0]
  obtain ⟨w0, hw0⟩ : ∃ w0, w0 = w.alloc (.cells #[.int .i64 rc, .int .i64 rv, .string rd, .slice rA N rcap] 35) := ⟨_, rfl⟩
  have hb0 : Ext w w0 := by rw [hw0]; exact Ext.alloc _ _
  have HW := Lib.hid hw0
  have X0 : Hid (Ext w w0) := hb0
  have XA : Hid (Ext w (w.alloc (.cells #[.int .i64 rc, .int .i64 rv, .string rd, .slice rA N rcap] 35))) := Ext.alloc _ _
  have a6 : ∀ o, (w.alloc o).cell? ⟨P, 6, none⟩ = some (.int .i64 xs) := fun o => (kP.stay (Ext.alloc w o)).cell 6
  have hplt := kP.lt
  clear hb0 hw0 kP hl hw hown hG hL hin hs hbP hN hx1
  go_enter Try.func14, Try.ntmps14
  go_wp2_with fail
  try go_ret
  exact hD.out _ _ ⟨rfl, XA.out⟩

set_option maxRecDepth 8000 in
set_option maxHeartbeats 8000000 in
theorem rans_ok0 (base P : Nat) (G : Option Nat) (st : Ps) (sq rc rv : Int) (rd : ByteArray) (rA : Option Addr) (rcap : Nat) (rl : List Int) (at_ : Int) (xc xk xi xm : Int) (xd : ByteArray) (w : World) (H : RAt w base P G st) (h0 : ¬ at_ < 0) (h1 : ¬ 1073741824 < at_) (hs : st.w 0 = some ⟨xc, sq, xk, xi, xm, xd⟩) (hx1 : 1 ≤ sq) (hn : st.acts.length ≤ 1000000) (hrl : rl.length ≤ 1000000) (hr : Sl i64 w rA rl) :
    Calls Try.prog 14 #[.pointer (some ⟨P, 0, none⟩), .int .i64 0, .int .i64 sq, .agg #[.int .i64 rc, .int .i64 rv, .string rd, .slice rA rl.length rcap], .int .i64 at_] w fun e w' => e = .returned (.int .i64 0) ∧ ROut w w' base P G (ansS st 0 sq ⟨rc, rv, rd, rl⟩ at_) := by
  refine hide_post fun D hD => ?_
  generalize hN : rl.length = N at *
  have hlt := H.lt
  obtain ⟨hbP, v, l0, l1, l2, l3, o0, o1, o2, o3, L, kP, hl, hw, hown, hG, hL, hin⟩ := H
  have ho : o0 = some ⟨xc, sq, xk, xi, xm, xd⟩ := by unfold Ps.w at hs; rw [hw] at hs; exact hs
  subst ho
  have hx0 : ¬ sq = 0 := by omega
  obtain ⟨w0, hw0⟩ : ∃ w0, w0 = w.alloc (.cells #[.int .i64 rc, .int .i64 rv, .string rd, .slice rA N rcap] 35) := ⟨_, rfl⟩
  have hb0 : Ext w w0 := by rw [hw0]; exact Ext.alloc _ _
  have HW := Lib.hid hw0
  have X0 : Hid (Ext w w0) := hb0
  have XA : Hid (Ext w (w.alloc (.cells #[.int .i64 rc, .int .i64 rv, .string rd, .slice rA N rcap] 35))) := Ext.alloc _ _
  have KR : Hid (Blk w0 w.heap.size 35 #[.int .i64 rc, .int .i64 rv, .string rd, .slice rA N rcap]) := by show Blk _ _ _ _; rw [hw0]; exact Blk.new _ _ _
  have hLn : L.length ≤ 1000000000 := by have h5 := congrArg List.length hL; rw [List.length_map] at h5; omega
  have HLN : Hid (L.length ≤ 1000000000) := hLn
  have HNN := Lib.hid hN
  have HKPw := Lib.hid kP
  have HOWNw := Lib.hid hown
  have HG : Hid (v.ownBlock = G) := hG
  have HL := Lib.hid hL
  have HIN := Lib.hid hin
  have HBP : Hid (base ≤ P) := hbP
  have HBS : Hid (base ≤ w.heap.size) := Nat.le_trans hbP (Nat.le_of_lt hlt)
  have HLS := Lib.hid hl
  have HWS := Lib.hid hw
  have HOS : Hid (st.w 0 = some ⟨xc, sq, xk, xi, xm, xd⟩) := hs
  have HNP : Hid (¬ some P = G) := fun e => by
    obtain ⟨cs, hc⟩ := own_blk hown (hG.trans e.symm)
    exact Blk.apart kP hc (by decide) rfl
  have HSR : Hid (∀ V, Ext w V → Sl i64 V rA rl) := fun V h => hr.stay h
  have HRL : Hid (rl.length ≤ 1000000) := by (show _ ≤ _); omega
  obtain ⟨g, hg⟩ : ∃ g, g = w.heap.size := ⟨_, rfl⟩
  have HGG := Lib.hid hg
  have hgP : ¬ g = P := by omega
  have a6 : ∀ o, (w.alloc o).cell? ⟨P, 6, none⟩ = some (.int .i64 sq) := fun o => (kP.stay (Ext.alloc w o)).cell 6
  have hplt := hlt
  have r3 : ∀ o, ((w.alloc (.cells #[.int .i64 rc, .int .i64 rv, .string rd, .slice rA N rcap] 35)).alloc o).cell? ⟨w.heap.size, 3, none⟩ = some (.slice rA N rcap) := fun o => ((Blk.new w _ _).stay (Ext.alloc _ o)).cell 3
  have hz0 : w0.heap.size = w.heap.size + 1 := by rw [hw0]; simp
  have hm : Hid ((w0.alloc (.cells #[] 3)).ownsRow (w.heap.size + 1) 3 1 (.slice (some ⟨w.heap.size + 1, 0, none⟩) 0 0) 0 []) := by
    have h7 := World.ownsRow_made (base := w0.heap.size) (e := 3) (size := 1) w0 #[] 0 (Nat.le_refl _) (Nat.zero_le _) rfl
    rw [hz0] at h7
    exact h7
  have HZ0 := Lib.hid hz0
  clear hb0 hw0 kP hl hw hown hG hL hin hs hlt hbP hLn hn hrl hr hN hg hx1 hz0
  go_enter Try.func14, Try.ntmps14
  go_upto_region 6 with (at_builtin; rw [← HW.out]; refine wpList_append_list rfl _ _ 33 rfl (w.heap.size + 1) 3 (.int .i64 0) 8 Try.underlying33 info_int rfl (by omega) (.slice (some ⟨w.heap.size + 1, 0, none⟩) 0 0) 0 [] rfl hm.out i64 rA rl N rcap HNN.out.symm rfl (HSR.out _ (Ext.trans X0.out (Ext.alloc _ _))) (fun _ => rfl) (by have := HRL.out; omega) (by have := HZ0.out; (try simp) <;> omega) ?_; intro v' w1 h1' h2' h3'; rw [Nat.zero_add, HNN.out] at h1'; obtain ⟨A2, c2, hv2⟩ := own_shape h1'; subst hv2; have O1 := Lib.hid h1'; have G1 := Lib.hid h2'; have KR1 : Hid (Blk w1 w.heap.size 35 #[.int .i64 rc, .int .i64 rv, .string rd, .slice rA N rcap]) := (KR.out.alloc _).grown h2' (fun e => by have e2 := Option.some.inj (show some w.heap.size = some (w.heap.size + 1) from e); omega); have X1 : Hid (Ext w0 w1) := ((Below.refl _ _).alloc (Nat.le_refl _) _).grown h2' (by simp) (fun k hk => by have e2 := Option.some.inj (show some (w.heap.size + 1) = some k from hk); have := HZ0.out; omega); have q3 := KR1.out.cell 3; have f3 := KR1.out.frozen 3; simp at q3; clear h1' h2' h3')
  rw [← HGG.out]
  have IN1 : Hid (∃ c3, In w1 A2 c3 rl ∧ c3 = c2) := by
    have h7 := O1.out
    rw [List.nil_append, ← HNN.out] at h7
    obtain ⟨A5, c5, e5, h8⟩ := In.own h7
    injection e5 with e6 e7 e8
    subst e6 e8
    exact ⟨_, h8, rfl⟩
  obtain ⟨c3, in1, hc3⟩ := IN1.out
  subst hc3
  obtain ⟨W2, hW2⟩ : ∃ W2, W2 = w1.setCell ⟨g, 3, none⟩ (.slice A2 N c3) := ⟨_, rfl⟩
  have HK1 : Hid (Blk w1 g 35 #[.int .i64 rc, .int .i64 rv, .string rd, .slice rA N rcap]) := by (show Blk _ _ _ _); rw [HGG.out]; exact KR1.out
  have KR2 : Hid (Blk W2 g 35 #[.int .i64 rc, .int .i64 rv, .string rd, .slice A2 N c3]) := by (show Blk _ _ _ _); rw [hW2]; exact HK1.out.set 3 _
  have FG : Hid (Frm (fun k => k = g) w1 W2) := by (show Frm _ _ _); rw [hW2]; exact Frm.of_set _ _ _ rfl
  have X2 : Hid (Ext w W2) := Frm.step (Ext.trans X0.out X1.out) FG.out (Ext.trans X0.out X1.out).size (by rintro k rfl; rw [HGG.out]; exact Nat.le_refl _)
  have IN2 : Hid (In W2 A2 c3 rl) := in1.of (fun k cs h => h.frm FG.out (Blk.apart h HK1.out (by decide)))
  have KP2 := Lib.hid (HKPw.out.stay X2.out)
  have HOWN2 := Lib.hid (own_frmN HOWNw.out (Frm.of_below X2.out (fun _ => False)) (fun _ _ h => h))
  try rw [← hW2]
  clear hW2 q3 f3 a6 r3 in1 IN1
  have hnG : ∀ k t cs, t ≠ 50 → Blk W2 k t cs → ¬ some k = G := fun k t cs ht h e => by
    obtain ⟨cs', hc⟩ := own_blk HOWN2.out (HG.out.trans e.symm)
    exact Blk.apart h hc ht rfl
  have z0 : ∀ V, Frm (fun k => some k = G) W2 V → V.cell? ⟨g, 0, none⟩ = some (.int .i64 rc) := fun V h => ((KR2.out.frm h (hnG _ _ _ (by decide) KR2.out))).cell 0
  have z1 : ∀ V, Frm (fun k => some k = G) W2 V → V.cell? ⟨g, 1, none⟩ = some (.int .i64 rv) := fun V h => ((KR2.out.frm h (hnG _ _ _ (by decide) KR2.out))).cell 1
  have z2 : ∀ V, Frm (fun k => some k = G) W2 V → V.cell? ⟨g, 2, none⟩ = some (.string rd) := fun V h => ((KR2.out.frm h (hnG _ _ _ (by decide) KR2.out))).cell 2
  have z3 : ∀ V, Frm (fun k => some k = G) W2 V → V.cell? ⟨g, 3, none⟩ = some (.slice A2 N c3) := fun V h => ((KR2.out.frm h (hnG _ _ _ (by decide) KR2.out))).cell 3
  have y0 : ∀ V, Frm (fun k => some k = G) W2 V → V.cell? ⟨P, 0, none⟩ = some (v) := fun V h => ((KP2.out.frm h HNP.out)).cell 0
  have y5 : ∀ V, Frm (fun k => some k = G) W2 V → V.cell? ⟨P, 5, none⟩ = some (.int .i64 xc) := fun V h => ((KP2.out.frm h HNP.out)).cell 5
  have y6 : ∀ V, Frm (fun k => some k = G) W2 V → V.cell? ⟨P, 6, none⟩ = some (.int .i64 sq) := fun V h => ((KP2.out.frm h HNP.out)).cell 6
  have y7 : ∀ V, Frm (fun k => some k = G) W2 V → V.cell? ⟨P, 7, none⟩ = some (.int .i64 xk) := fun V h => ((KP2.out.frm h HNP.out)).cell 7
  have y8 : ∀ V, Frm (fun k => some k = G) W2 V → V.cell? ⟨P, 8, none⟩ = some (.int .i64 xi) := fun V h => ((KP2.out.frm h HNP.out)).cell 8
  have y9 : ∀ V, Frm (fun k => some k = G) W2 V → V.cell? ⟨P, 9, none⟩ = some (.int .i64 xm) := fun V h => ((KP2.out.frm h HNP.out)).cell 9
  have y10 : ∀ V, Frm (fun k => some k = G) W2 V → V.cell? ⟨P, 10, none⟩ = some (.string xd) := fun V h => ((KP2.out.frm h HNP.out)).cell 10
  have Xe : Hid (Ext W2 W2.drew) := (Ext.refl _).drewR
  have E0g : Hid (Frm (fun k => some k = G) W2 W2.drew) := Frm.of_below Xe.out _
  refine rz_begin (fun k => some k = G) [20] (by kernel_rfl) ?_
  refine rz_take [18, 19, 20] (i := 0) (v := ?_) rfl (by kernel_rfl) (by kernel_rfl) (by kernel_rfl) (by kernel_rfl) (by kernel_rfl) (by kernel_rfl) (fun _ _ _ h => h) (by rfl) ?_ ?_
  rotate_left
  · intro W hW; have hW0 := Frm.tr E0g.out hW; clear hW; go_simp <;> with_reducible rfl
  try simp only [Act.put, List.setIfInBounds_toArray, List.set_cons_zero, List.set_cons_succ]
  refine rz_take [2, 3, 4, 17, 18, 19, 20] (i := 1) (v := ?_) rfl (by kernel_rfl) (by kernel_rfl) (by kernel_rfl) (by kernel_rfl) (by kernel_rfl) (by kernel_rfl) (fun _ _ _ h => h) (by rfl) ?_ ?_
  rotate_left
  · intro W hW; have hW0 := Frm.tr E0g.out hW; clear hW; go_simp <;> with_reducible rfl
  try simp only [Act.put, List.setIfInBounds_toArray, List.set_cons_zero, List.set_cons_succ]
  refine rz_take [3, 4, 17, 18, 19, 20] (i := 2) (v := ?_) rfl (by kernel_rfl) (by kernel_rfl) (by kernel_rfl) (by kernel_rfl) (by kernel_rfl) (by kernel_rfl) (fun _ _ _ h => h) (by rfl) ?_ ?_
  rotate_left
  · intro W hW; have hW0 := Frm.tr E0g.out hW; clear hW; go_simp <;> with_reducible rfl
  try simp only [Act.put, List.setIfInBounds_toArray, List.set_cons_zero, List.set_cons_succ]
  refine rz_take [4, 17, 18, 19, 20] (i := 3) (v := ?_) rfl (by kernel_rfl) (by kernel_rfl) (by kernel_rfl) (by kernel_rfl) (by kernel_rfl) (by kernel_rfl) (fun _ _ _ h => h) (by rfl) ?_ ?_
  rotate_left
  · intro W hW; have hW0 := Frm.tr E0g.out hW; clear hW; go_simp <;> with_reducible rfl
  try simp only [Act.put, List.setIfInBounds_toArray, List.set_cons_zero, List.set_cons_succ]
  refine rz_take [17, 18, 19, 20] (i := 4) (v := ?_) rfl (by kernel_rfl) (by kernel_rfl) (by kernel_rfl) (by kernel_rfl) (by kernel_rfl) (by kernel_rfl) (fun _ _ _ h => h) (by rfl) ?_ ?_
  rotate_left
  · intro W hW; have hW0 := Frm.tr E0g.out hW; clear hW; go_simp <;> with_reducible rfl
  try simp only [Act.put, List.setIfInBounds_toArray, List.set_cons_zero, List.set_cons_succ]
  refine rz_take [15, 16, 17, 18, 19, 20] (i := 5) (v := ?_) rfl (by kernel_rfl) (by kernel_rfl) (by kernel_rfl) (by kernel_rfl) (by kernel_rfl) (by kernel_rfl) (fun _ _ _ h => h) (by rfl) ?_ ?_
  rotate_left
  · intro W hW; have hW0 := Frm.tr E0g.out hW; clear hW; go_simp <;> with_reducible rfl
  try simp only [Act.put, List.setIfInBounds_toArray, List.set_cons_zero, List.set_cons_succ]
  refine rz_take [15, 16, 17, 18, 19, 20] (i := 6) (v := ?_) rfl (by kernel_rfl) (by kernel_rfl) (by kernel_rfl) (by kernel_rfl) (by kernel_rfl) (by kernel_rfl) (fun _ _ _ h => h) (by rfl) ?_ ?_
  rotate_left
  · intro W hW; have hW0 := Frm.tr E0g.out hW; clear hW; go_simp <;> with_reducible rfl
  try simp only [Act.put, List.setIfInBounds_toArray, List.set_cons_zero, List.set_cons_succ]
  refine rz_take [9, 10, 11, 12, 15, 16, 17, 18, 19, 20] (i := 7) (v := ?_) rfl (by kernel_rfl) (by kernel_rfl) (by kernel_rfl) (by kernel_rfl) (by kernel_rfl) (by kernel_rfl) (fun _ _ _ h => h) (by rfl) ?_ ?_
  rotate_left
  · intro W hW; have hW0 := Frm.tr E0g.out hW; clear hW; go_simp <;> with_reducible rfl
  try simp only [Act.put, List.setIfInBounds_toArray, List.set_cons_zero, List.set_cons_succ]
  refine rz_take [11, 12, 15, 16, 17, 18, 19, 20] (i := 8) (v := ?_) rfl (by kernel_rfl) (by kernel_rfl) (by kernel_rfl) (by kernel_rfl) (by kernel_rfl) (by kernel_rfl) (fun _ _ _ h => h) (by rfl) ?_ ?_
  rotate_left
  · intro W hW; have hW0 := Frm.tr E0g.out hW; clear hW; go_simp <;> with_reducible rfl
  try simp only [Act.put, List.setIfInBounds_toArray, List.set_cons_zero, List.set_cons_succ]
  refine rz_take [10, 11, 12, 15, 16, 17, 18, 19, 20] (i := 9) (v := ?_) rfl (by kernel_rfl) (by kernel_rfl) (by kernel_rfl) (by kernel_rfl) (by kernel_rfl) (by kernel_rfl) (fun _ _ _ h => h) (by rfl) ?_ ?_
  rotate_left
  · intro W hW; have hW0 := Frm.tr E0g.out hW; clear hW; go_simp <;> with_reducible rfl
  try simp only [Act.put, List.setIfInBounds_toArray, List.set_cons_zero, List.set_cons_succ]
  refine rz_take [11, 12, 15, 16, 17, 18, 19, 20] (i := 10) (v := ?_) rfl (by kernel_rfl) (by kernel_rfl) (by kernel_rfl) (by kernel_rfl) (by kernel_rfl) (by kernel_rfl) (fun _ _ _ h => h) (by rfl) ?_ ?_
  rotate_left
  · intro W hW; have hW0 := Frm.tr E0g.out hW; clear hW; go_simp <;> with_reducible rfl
  try simp only [Act.put, List.setIfInBounds_toArray, List.set_cons_zero, List.set_cons_succ]
  refine rz_take [12, 15, 16, 17, 18, 19, 20] (i := 11) (v := ?_) rfl (by kernel_rfl) (by kernel_rfl) (by kernel_rfl) (by kernel_rfl) (by kernel_rfl) (by kernel_rfl) (fun _ _ _ h => h) (by rfl) ?_ ?_
  rotate_left
  · intro W hW; have hW0 := Frm.tr E0g.out hW; clear hW; go_simp <;> with_reducible rfl
  try simp only [Act.put, List.setIfInBounds_toArray, List.set_cons_zero, List.set_cons_succ]
  refine rz_take [15, 16, 17, 18, 19, 20] (i := 12) (v := ?_) rfl (by kernel_rfl) (by kernel_rfl) (by kernel_rfl) (by kernel_rfl) (by kernel_rfl) (by kernel_rfl) (fun _ _ _ h => h) (by rfl) ?_ ?_
  rotate_left
  · intro W hW; have hW0 := Frm.tr E0g.out hW; clear hW; go_simp <;> with_reducible rfl
  try simp only [Act.put, List.setIfInBounds_toArray, List.set_cons_zero, List.set_cons_succ]
  refine rz_take [15, 16, 17, 18, 19, 20] (i := 13) (v := ?_) rfl (by kernel_rfl) (by kernel_rfl) (by kernel_rfl) (by kernel_rfl) (by kernel_rfl) (by kernel_rfl) (fun _ _ _ h => h) (by rfl) ?_ ?_
  rotate_left
  · intro W hW; have hW0 := Frm.tr E0g.out hW; clear hW; go_simp <;> with_reducible rfl
  try simp only [Act.put, List.setIfInBounds_toArray, List.set_cons_zero, List.set_cons_succ]
  refine rz_take [15, 16, 17, 18, 19, 20] (i := 14) (v := ?_) rfl (by kernel_rfl) (by kernel_rfl) (by kernel_rfl) (by kernel_rfl) (by kernel_rfl) (by kernel_rfl) (fun _ _ _ h => h) (by rfl) ?_ ?_
  rotate_left
  · intro W hW; have hW0 := Frm.tr E0g.out hW; clear hW; go_simp <;> with_reducible rfl
  try simp only [Act.put, List.setIfInBounds_toArray, List.set_cons_zero, List.set_cons_succ]
  refine rz_take [16, 17, 18, 19, 20] (i := 15) (v := ?_) rfl (by kernel_rfl) (by kernel_rfl) (by kernel_rfl) (by kernel_rfl) (by kernel_rfl) (by kernel_rfl) (fun _ _ _ h => h) (by rfl) ?_ ?_
  rotate_left
  · intro W hW; have hW0 := Frm.tr E0g.out hW; clear hW; go_simp <;> with_reducible rfl
  try simp only [Act.put, List.setIfInBounds_toArray, List.set_cons_zero, List.set_cons_succ]
  refine rz_call (i := 16) rfl (by kernel_rfl) (by rfl) (fun K hK => ?_)
  go_simp
  refine hK _ _ (Frm.of_alloc _ _ _) ?_; clear hK K
  obtain ⟨W3, hW3⟩ : ∃ W3, W3 = (W2.alloc (.cells #[.int .i64 0, .int .i64 sq, .bool true, .int .i64 xc, .int .i64 sq, .int .i64 xk, .int .i64 xi, .int .i64 xm, .string xd, .int .i64 rc, .int .i64 rv, .string rd, .slice A2 N c3, .int .i64 at_] 50)).drew := ⟨_, rfl⟩
  have KR3 : Hid (Blk W3 W2.drew.heap.size 50 #[.int .i64 0, .int .i64 sq, .bool true, .int .i64 xc, .int .i64 sq, .int .i64 xk, .int .i64 xi, .int .i64 xm, .string xd, .int .i64 rc, .int .i64 rv, .string rd, .slice A2 N c3, .int .i64 at_]) := by (show Blk _ _ _ _); rw [hW3]; exact Blk.new W2.drew _ _
  have X3 : Hid (Ext W2.drew W3) := by (show Ext _ _); rw [hW3]; exact Ext.alloc W2.drew _
  have E3 : Hid (Frm (fun k => some k = G) W2 W3) := Frm.tr E0g.out (Frm.of_below X3.out _)
  try rw [← hW3]
  clear hW3
  try simp only [Act.put, List.setIfInBounds_toArray, List.set_cons_zero, List.set_cons_succ]
  refine rz_call (i := 17) rfl (by kernel_rfl) (by rfl) (fun K hK => ?_)
  refine wp_append_wide (.tmp 55) (.tmp 67) 26 rfl base 50 _ 14 144 Try.underlying26 info_act rfl (by decide) (by decide) v L.length (flatA L) rfl (own_frmN HOWN2.out (Frm.of_below (Ext.trans Xe.out X3.out) (fun _ => False)) (fun _ _ h => h)) W2.drew.heap.size [.int .i64 0, .int .i64 sq, .bool true, .int .i64 xc, .int .i64 sq, .int .i64 xk, .int .i64 xi, .int .i64 xm, .string xd, .int .i64 rc, .int .i64 rv, .string rd, .slice A2 N c3, .int .i64 at_] rfl rfl KR3.out (by intro y hy; simp at hy; rcases hy with rfl | rfl | rfl | rfl | rfl | rfl | rfl | rfl | rfl | rfl | rfl | rfl | rfl | rfl <;> rfl) HLN.out (Nat.le_trans HBS.out (Nat.le_trans X2.out.size (Nat.le_trans Xe.out.size X3.out.size))) ?_
  intro v2 W4 oo gg bb
  obtain ⟨A3, cap3, hv3⟩ := own_shape oo
  subst hv3
  refine hK _ _ (Frm.of_grown gg (fun k hk => hk.trans HG.out)) ?_; clear hK K
  have O4 := Lib.hid oo
  have BB4 := Lib.hid bb
  have E4 : Hid (Frm (fun k => some k = G) W2 W4) := Frm.tr E3.out (Frm.of_grown gg (fun k hk => hk.trans HG.out))
  clear oo gg bb
  have KP4 : Hid (Blk W4 P 32 #[v, .int .i64 l0, .int .i64 l1, .int .i64 l2, .int .i64 l3, .int .i64 xc, .int .i64 sq, .int .i64 xk, .int .i64 xi, .int .i64 xm, .string xd, .int .i64 (wq o1).c, .int .i64 (wq o1).s, .int .i64 (wq o1).k, .int .i64 (wq o1).i, .int .i64 (wq o1).m, .string (wq o1).d, .int .i64 (wq o2).c, .int .i64 (wq o2).s, .int .i64 (wq o2).k, .int .i64 (wq o2).i, .int .i64 (wq o2).m, .string (wq o2).d, .int .i64 (wq o3).c, .int .i64 (wq o3).s, .int .i64 (wq o3).k, .int .i64 (wq o3).i, .int .i64 (wq o3).m, .string (wq o3).d]) := KP2.out.frm E4.out (fun e => HNP.out e)
  try simp only [Act.put, List.setIfInBounds_toArray, List.set_cons_zero, List.set_cons_succ]
  refine rz_take [19, 20] (i := 18) (v := ?_) rfl (by kernel_rfl) (by kernel_rfl) (by kernel_rfl) (by kernel_rfl) (by kernel_rfl) (by kernel_rfl) (fun _ _ _ h => h) (by rfl) ?_ ?_
  rotate_left
  · intro W hW; have hW0 := Frm.tr E4.out hW; clear hW; go_simp <;> with_reducible rfl
  try simp only [Act.put, List.setIfInBounds_toArray, List.set_cons_zero, List.set_cons_succ]
  refine rz_take [20] (i := 19) (v := ?_) rfl (by kernel_rfl) (by kernel_rfl) (by kernel_rfl) (by kernel_rfl) (by kernel_rfl) (by kernel_rfl) (fun _ _ _ h => h) (by rfl) ?_ ?_
  rotate_left
  · intro W hW; have hW0 := Frm.tr E4.out hW; clear hW; go_simp <;> with_reducible rfl
  try simp only [Act.put, List.setIfInBounds_toArray, List.set_cons_zero, List.set_cons_succ]
  refine rz_last (i := 20) rfl (by kernel_rfl) (by rfl) (by rfl) (fun K hK => ?_)
  have q1 := KP4.out.frozen 0
  have r1 := KP4.out.cell 0
  simp at r1
  go_simp
  refine hK _ _ ?_; clear hK K q1 r1
  obtain ⟨W5, hW5⟩ : ∃ W5, W5 = W4.setCell ⟨P, 0, none⟩ (.slice A3 (L.length + 1) cap3) := ⟨_, rfl⟩
  have KP5 : Hid (Blk W5 P 32 #[.slice A3 (L.length + 1) cap3, .int .i64 l0, .int .i64 l1, .int .i64 l2, .int .i64 l3, .int .i64 xc, .int .i64 sq, .int .i64 xk, .int .i64 xi, .int .i64 xm, .string xd, .int .i64 (wq o1).c, .int .i64 (wq o1).s, .int .i64 (wq o1).k, .int .i64 (wq o1).i, .int .i64 (wq o1).m, .string (wq o1).d, .int .i64 (wq o2).c, .int .i64 (wq o2).s, .int .i64 (wq o2).k, .int .i64 (wq o2).i, .int .i64 (wq o2).m, .string (wq o2).d, .int .i64 (wq o3).c, .int .i64 (wq o3).s, .int .i64 (wq o3).k, .int .i64 (wq o3).i, .int .i64 (wq o3).m, .string (wq o3).d]) := by (show Blk _ _ _ _); rw [hW5]; exact KP4.out.set 0 _
  have F5 : Hid (Frm (fun k => k = P) W4 W5) := by (show Frm _ _ _); rw [hW5]; exact Frm.of_set _ _ _ rfl
  try rw [← hW5]
  clear hW5
  try simp only [Act.put, List.setIfInBounds_toArray, List.set_cons_zero, List.set_cons_succ]
  refine rz_done (by kernel_rfl) ?_ _
  clear z0 z1 z2 z3 y0 y5 y6 y7 y8 y9 y10
  have k5 := KP5.out.cell 5
  have g5 := KP5.out.frozen 5
  have k6 := KP5.out.cell 6
  have g6 := KP5.out.frozen 6
  have k7 := KP5.out.cell 7
  have g7 := KP5.out.frozen 7
  have k8 := KP5.out.cell 8
  have g8 := KP5.out.frozen 8
  have k9 := KP5.out.cell 9
  have g9 := KP5.out.frozen 9
  have k10 := KP5.out.cell 10
  have g10 := KP5.out.frozen 10
  simp at k5 k6 k7 k8 k9 k10
  go_wp2_with fail
  try go_ret
  obtain ⟨W6, hW6⟩ : ∃ W6, W6 = ((((((W5.setCell ⟨P, 5, none⟩ (.int .i64 0)).setCell ⟨P, 6, none⟩ (.int .i64 0)).setCell ⟨P, 7, none⟩ (.int .i64 0)).setCell ⟨P, 8, none⟩ (.int .i64 0)).setCell ⟨P, 9, none⟩ (.int .i64 0)).setCell ⟨P, 10, none⟩ (.string ⟨#[]⟩)) := ⟨_, rfl⟩
  have KP6 : Blk W6 P 32 #[.slice A3 (L.length + 1) cap3, .int .i64 l0, .int .i64 l1, .int .i64 l2, .int .i64 l3, .int .i64 0, .int .i64 0, .int .i64 0, .int .i64 0, .int .i64 0, .string ⟨#[]⟩, .int .i64 (wq o1).c, .int .i64 (wq o1).s, .int .i64 (wq o1).k, .int .i64 (wq o1).i, .int .i64 (wq o1).m, .string (wq o1).d, .int .i64 (wq o2).c, .int .i64 (wq o2).s, .int .i64 (wq o2).k, .int .i64 (wq o2).i, .int .i64 (wq o2).m, .string (wq o2).d, .int .i64 (wq o3).c, .int .i64 (wq o3).s, .int .i64 (wq o3).k, .int .i64 (wq o3).i, .int .i64 (wq o3).m, .string (wq o3).d] := by rw [hW6]; exact ((((((KP5.out.set 5 (.int .i64 0)).set 6 (.int .i64 0)).set 7 (.int .i64 0)).set 8 (.int .i64 0)).set 9 (.int .i64 0)).set 10 (.string ⟨#[]⟩))
  have F6 : Frm (fun k => k = P) W4 W6 := by rw [hW6]; exact Frm.tr (Frm.tr (Frm.tr (Frm.tr (Frm.tr (Frm.tr (F5.out) (Frm.of_set _ _ _ rfl)) (Frm.of_set _ _ _ rfl)) (Frm.of_set _ _ _ rfl)) (Frm.of_set _ _ _ rfl)) (Frm.of_set _ _ _ rfl)) (Frm.of_set _ _ _ rfl)
  try rw [← hW6]
  clear hW6
  have FA2 : Frm (Psel P G) W2 W6 := Frm.tr (E4.out.mono (fun k hk => Or.inr hk)) (F6.mono (fun k hk => Or.inl hk))
  have FA : Frm (Psel P G) w W6 := Frm.tr (Frm.of_below X2.out _) FA2
  have hkeep : ∀ k cs, Blk W2 k 3 cs → Blk W6 k 3 cs := fun k cs h => h.frm FA2 (fun hh => by
    rcases hh with hh | hh
    · subst hh; exact Blk.apart h KP2.out (by decide) rfl
    · exact hnG k _ cs (by decide) h hh)
  have O5 : W6.ownsRow base 50 14 (.slice A3 (L.length + 1) cap3) (L ++ [At.mk (Ac.mk 0 sq true (Rqv.mk xc sq xk xi xm xd) (Rpv.mk rc rv rd rl) at_) A2 c3]).length (flatA (L ++ [At.mk (Ac.mk 0 sq true (Rqv.mk xc sq xk xi xm xd) (Rpv.mk rc rv rd rl) at_) A2 c3])) := by
    rw [flatA_append, List.length_append]
    have h7 := own_frmN O4.out F6 (fun k hk e => own_blkne O4.out KP4.out (by decide) k hk e)
    have h8 : flatA [At.mk (Ac.mk 0 sq true (Rqv.mk xc sq xk xi xm xd) (Rpv.mk rc rv rd rl) at_) A2 c3] = [.int .i64 0, .int .i64 sq, .bool true, .int .i64 xc, .int .i64 sq, .int .i64 xk, .int .i64 xi, .int .i64 xm, .string xd, .int .i64 rc, .int .i64 rv, .string rd, .slice A2 N c3, .int .i64 at_] := by simp [flatA, acRow, HNN.out]
    rw [h8]
    exact h7
  refine hD.out _ _ ⟨rfl, _, ⟨HBP.out, .slice A3 (L.length + 1) cap3, l0, l1, l2, l3, none, o1, o2, o3, L ++ [At.mk (Ac.mk 0 sq true (Rqv.mk xc sq xk xi xm xd) (Rpv.mk rc rv rd rl) at_) A2 c3], KP6, HLS.out, ?_, O5, rfl, ?_, ?_⟩, FA, ?_⟩
  · show st.wait.set 0 none = _
    rw [HWS.out]; rfl
  · show _ = st.acts ++ [(⟨0, sq, true, (st.w 0).getD ⟨0, 0, 0, 0, 0, ⟨#[]⟩⟩, ⟨rc, rv, rd, rl⟩, at_⟩ : Ac)]
    rw [HOS.out, List.map_append, HL.out]; rfl
  · intro t ht
    rw [List.mem_append, List.mem_singleton] at ht
    rcases ht with ht | rfl
    · exact ((HIN.out t ht).stay X2.out).of (fun k cs h => hkeep k cs h)
    · exact IN2.out.of (fun k cs h => hkeep k cs h)
  · rcases BB4.out with h5 | h5
    · exact .inl (h5.trans HG.out)
    · exact .inr ⟨_, h5, Nat.le_trans X2.out.size (Nat.le_trans Xe.out.size X3.out.size)⟩

set_option maxRecDepth 8000 in
set_option maxHeartbeats 8000000 in
theorem rans_none1 (base P : Nat) (G : Option Nat) (st : Ps) (sq rc rv : Int) (rd : ByteArray) (rA : Option Addr) (rcap : Nat) (rl : List Int) (at_ : Int) (w : World) (H : RAt w base P G st) (h0 : ¬ at_ < 0) (h1 : ¬ 1073741824 < at_) (hs : st.w 1 = none) :
    Calls Try.prog 14 #[.pointer (some ⟨P, 0, none⟩), .int .i64 1, .int .i64 sq, .agg #[.int .i64 rc, .int .i64 rv, .string rd, .slice rA rl.length rcap], .int .i64 at_] w fun e w' => e = .returned (.int .i64 4) ∧ Ext w w' := by
  refine hide_post fun D hD => ?_
  generalize hN : rl.length = N at *
  obtain ⟨hbP, v, l0, l1, l2, l3, o0, o1, o2, o3, L, kP, hl, hw, hown, hG, hL, hin⟩ := H
  have ho : o1 = none := by unfold Ps.w at hs; rw [hw] at hs; exact hs
  subst ho
  obtain ⟨w0, hw0⟩ : ∃ w0, w0 = w.alloc (.cells #[.int .i64 rc, .int .i64 rv, .string rd, .slice rA N rcap] 35) := ⟨_, rfl⟩
  have hb0 : Ext w w0 := by rw [hw0]; exact Ext.alloc _ _
  have HW := Lib.hid hw0
  have X0 : Hid (Ext w w0) := hb0
  have XA : Hid (Ext w (w.alloc (.cells #[.int .i64 rc, .int .i64 rv, .string rd, .slice rA N rcap] 35))) := Ext.alloc _ _
  have a12 : ∀ o, (w.alloc o).cell? ⟨P, 12, none⟩ = some (.int .i64 0) := fun o => (kP.stay (Ext.alloc w o)).cell 12
  have hplt := kP.lt
  clear hb0 hw0 kP hl hw hown hG hL hin hs hbP hN
  go_enter Try.func14, Try.ntmps14
  go_wp2_with fail
  try go_ret
  exact hD.out _ _ ⟨rfl, XA.out⟩

set_option maxRecDepth 8000 in
set_option maxHeartbeats 8000000 in
theorem rans_other1 (base P : Nat) (G : Option Nat) (st : Ps) (sq rc rv : Int) (rd : ByteArray) (rA : Option Addr) (rcap : Nat) (rl : List Int) (at_ : Int) (xc xs xk xi xm : Int) (xd : ByteArray) (w : World) (H : RAt w base P G st) (h0 : ¬ at_ < 0) (h1 : ¬ 1073741824 < at_) (hs : st.w 1 = some ⟨xc, xs, xk, xi, xm, xd⟩) (hx1 : 1 ≤ xs) (hq : ¬ xs = sq) :
    Calls Try.prog 14 #[.pointer (some ⟨P, 0, none⟩), .int .i64 1, .int .i64 sq, .agg #[.int .i64 rc, .int .i64 rv, .string rd, .slice rA rl.length rcap], .int .i64 at_] w fun e w' => e = .returned (.int .i64 4) ∧ Ext w w' := by
  refine hide_post fun D hD => ?_
  generalize hN : rl.length = N at *
  obtain ⟨hbP, v, l0, l1, l2, l3, o0, o1, o2, o3, L, kP, hl, hw, hown, hG, hL, hin⟩ := H
  have ho : o1 = some ⟨xc, xs, xk, xi, xm, xd⟩ := by unfold Ps.w at hs; rw [hw] at hs; exact hs
  subst ho
  have hx0 : ¬ xs = 0 := by omega
  have hq1 : (xs == sq) = false := by simp [hq]
  have hx01 : (xs == 0) = false := by simp [hx0]
  obtain ⟨w0, hw0⟩ : ∃ w0, w0 = w.alloc (.cells #[.int .i64 rc, .int .i64 rv, .string rd, .slice rA N rcap] 35) := ⟨_, rfl⟩
  have hb0 : Ext w w0 := by rw [hw0]; exact Ext.alloc _ _
  have HW := Lib.hid hw0
  have X0 : Hid (Ext w w0) := hb0
  have XA : Hid (Ext w (w.alloc (.cells #[.int .i64 rc, .int .i64 rv, .string rd, .slice rA N rcap] 35))) := Ext.alloc _ _
  have a12 : ∀ o, (w.alloc o).cell? ⟨P, 12, none⟩ = some (.int .i64 xs) := fun o => (kP.stay (Ext.alloc w o)).cell 12
  have hplt := kP.lt
  clear hb0 hw0 kP hl hw hown hG hL hin hs hbP hN hx1
  go_enter Try.func14, Try.ntmps14
  go_wp2_with fail
  try go_ret
  exact hD.out _ _ ⟨rfl, XA.out⟩

set_option maxRecDepth 8000 in
set_option maxHeartbeats 8000000 in
theorem rans_ok1 (base P : Nat) (G : Option Nat) (st : Ps) (sq rc rv : Int) (rd : ByteArray) (rA : Option Addr) (rcap : Nat) (rl : List Int) (at_ : Int) (xc xk xi xm : Int) (xd : ByteArray) (w : World) (H : RAt w base P G st) (h0 : ¬ at_ < 0) (h1 : ¬ 1073741824 < at_) (hs : st.w 1 = some ⟨xc, sq, xk, xi, xm, xd⟩) (hx1 : 1 ≤ sq) (hn : st.acts.length ≤ 1000000) (hrl : rl.length ≤ 1000000) (hr : Sl i64 w rA rl) :
    Calls Try.prog 14 #[.pointer (some ⟨P, 0, none⟩), .int .i64 1, .int .i64 sq, .agg #[.int .i64 rc, .int .i64 rv, .string rd, .slice rA rl.length rcap], .int .i64 at_] w fun e w' => e = .returned (.int .i64 0) ∧ ROut w w' base P G (ansS st 1 sq ⟨rc, rv, rd, rl⟩ at_) := by
  refine hide_post fun D hD => ?_
  generalize hN : rl.length = N at *
  have hlt := H.lt
  obtain ⟨hbP, v, l0, l1, l2, l3, o0, o1, o2, o3, L, kP, hl, hw, hown, hG, hL, hin⟩ := H
  have ho : o1 = some ⟨xc, sq, xk, xi, xm, xd⟩ := by unfold Ps.w at hs; rw [hw] at hs; exact hs
  subst ho
  have hx0 : ¬ sq = 0 := by omega
  obtain ⟨w0, hw0⟩ : ∃ w0, w0 = w.alloc (.cells #[.int .i64 rc, .int .i64 rv, .string rd, .slice rA N rcap] 35) := ⟨_, rfl⟩
  have hb0 : Ext w w0 := by rw [hw0]; exact Ext.alloc _ _
  have HW := Lib.hid hw0
  have X0 : Hid (Ext w w0) := hb0
  have XA : Hid (Ext w (w.alloc (.cells #[.int .i64 rc, .int .i64 rv, .string rd, .slice rA N rcap] 35))) := Ext.alloc _ _
  have KR : Hid (Blk w0 w.heap.size 35 #[.int .i64 rc, .int .i64 rv, .string rd, .slice rA N rcap]) := by show Blk _ _ _ _; rw [hw0]; exact Blk.new _ _ _
  have hLn : L.length ≤ 1000000000 := by have h5 := congrArg List.length hL; rw [List.length_map] at h5; omega
  have HLN : Hid (L.length ≤ 1000000000) := hLn
  have HNN := Lib.hid hN
  have HKPw := Lib.hid kP
  have HOWNw := Lib.hid hown
  have HG : Hid (v.ownBlock = G) := hG
  have HL := Lib.hid hL
  have HIN := Lib.hid hin
  have HBP : Hid (base ≤ P) := hbP
  have HBS : Hid (base ≤ w.heap.size) := Nat.le_trans hbP (Nat.le_of_lt hlt)
  have HLS := Lib.hid hl
  have HWS := Lib.hid hw
  have HOS : Hid (st.w 1 = some ⟨xc, sq, xk, xi, xm, xd⟩) := hs
  have HNP : Hid (¬ some P = G) := fun e => by
    obtain ⟨cs, hc⟩ := own_blk hown (hG.trans e.symm)
    exact Blk.apart kP hc (by decide) rfl
  have HSR : Hid (∀ V, Ext w V → Sl i64 V rA rl) := fun V h => hr.stay h
  have HRL : Hid (rl.length ≤ 1000000) := by (show _ ≤ _); omega
  obtain ⟨g, hg⟩ : ∃ g, g = w.heap.size := ⟨_, rfl⟩
  have HGG := Lib.hid hg
  have hgP : ¬ g = P := by omega
  have a12 : ∀ o, (w.alloc o).cell? ⟨P, 12, none⟩ = some (.int .i64 sq) := fun o => (kP.stay (Ext.alloc w o)).cell 12
  have hplt := hlt
  have r3 : ∀ o, ((w.alloc (.cells #[.int .i64 rc, .int .i64 rv, .string rd, .slice rA N rcap] 35)).alloc o).cell? ⟨w.heap.size, 3, none⟩ = some (.slice rA N rcap) := fun o => ((Blk.new w _ _).stay (Ext.alloc _ o)).cell 3
  have hz0 : w0.heap.size = w.heap.size + 1 := by rw [hw0]; simp
  have hm : Hid ((w0.alloc (.cells #[] 3)).ownsRow (w.heap.size + 1) 3 1 (.slice (some ⟨w.heap.size + 1, 0, none⟩) 0 0) 0 []) := by
    have h7 := World.ownsRow_made (base := w0.heap.size) (e := 3) (size := 1) w0 #[] 0 (Nat.le_refl _) (Nat.zero_le _) rfl
    rw [hz0] at h7
    exact h7
  have HZ0 := Lib.hid hz0
  clear hb0 hw0 kP hl hw hown hG hL hin hs hlt hbP hLn hn hrl hr hN hg hx1 hz0
  go_enter Try.func14, Try.ntmps14
  go_upto_region 6 with (at_builtin; rw [← HW.out]; refine wpList_append_list rfl _ _ 33 rfl (w.heap.size + 1) 3 (.int .i64 0) 8 Try.underlying33 info_int rfl (by omega) (.slice (some ⟨w.heap.size + 1, 0, none⟩) 0 0) 0 [] rfl hm.out i64 rA rl N rcap HNN.out.symm rfl (HSR.out _ (Ext.trans X0.out (Ext.alloc _ _))) (fun _ => rfl) (by have := HRL.out; omega) (by have := HZ0.out; (try simp) <;> omega) ?_; intro v' w1 h1' h2' h3'; rw [Nat.zero_add, HNN.out] at h1'; obtain ⟨A2, c2, hv2⟩ := own_shape h1'; subst hv2; have O1 := Lib.hid h1'; have G1 := Lib.hid h2'; have KR1 : Hid (Blk w1 w.heap.size 35 #[.int .i64 rc, .int .i64 rv, .string rd, .slice rA N rcap]) := (KR.out.alloc _).grown h2' (fun e => by have e2 := Option.some.inj (show some w.heap.size = some (w.heap.size + 1) from e); omega); have X1 : Hid (Ext w0 w1) := ((Below.refl _ _).alloc (Nat.le_refl _) _).grown h2' (by simp) (fun k hk => by have e2 := Option.some.inj (show some (w.heap.size + 1) = some k from hk); have := HZ0.out; omega); have q3 := KR1.out.cell 3; have f3 := KR1.out.frozen 3; simp at q3; clear h1' h2' h3')
  rw [← HGG.out]
  have IN1 : Hid (∃ c3, In w1 A2 c3 rl ∧ c3 = c2) := by
    have h7 := O1.out
    rw [List.nil_append, ← HNN.out] at h7
    obtain ⟨A5, c5, e5, h8⟩ := In.own h7
    injection e5 with e6 e7 e8
    subst e6 e8
    exact ⟨_, h8, rfl⟩
  obtain ⟨c3, in1, hc3⟩ := IN1.out
  subst hc3
  obtain ⟨W2, hW2⟩ : ∃ W2, W2 = w1.setCell ⟨g, 3, none⟩ (.slice A2 N c3) := ⟨_, rfl⟩
  have HK1 : Hid (Blk w1 g 35 #[.int .i64 rc, .int .i64 rv, .string rd, .slice rA N rcap]) := by (show Blk _ _ _ _); rw [HGG.out]; exact KR1.out
  have KR2 : Hid (Blk W2 g 35 #[.int .i64 rc, .int .i64 rv, .string rd, .slice A2 N c3]) := by (show Blk _ _ _ _); rw [hW2]; exact HK1.out.set 3 _
  have FG : Hid (Frm (fun k => k = g) w1 W2) := by (show Frm _ _ _); rw [hW2]; exact Frm.of_set _ _ _ rfl
  have X2 : Hid (Ext w W2) := Frm.step (Ext.trans X0.out X1.out) FG.out (Ext.trans X0.out X1.out).size (by rintro k rfl; rw [HGG.out]; exact Nat.le_refl _)
  have IN2 : Hid (In W2 A2 c3 rl) := in1.of (fun k cs h => h.frm FG.out (Blk.apart h HK1.out (by decide)))
  have KP2 := Lib.hid (HKPw.out.stay X2.out)
  have HOWN2 := Lib.hid (own_frmN HOWNw.out (Frm.of_below X2.out (fun _ => False)) (fun _ _ h => h))
  try rw [← hW2]
  clear hW2 q3 f3 a12 r3 in1 IN1
  have hnG : ∀ k t cs, t ≠ 50 → Blk W2 k t cs → ¬ some k = G := fun k t cs ht h e => by
    obtain ⟨cs', hc⟩ := own_blk HOWN2.out (HG.out.trans e.symm)
    exact Blk.apart h hc ht rfl
  have z0 : ∀ V, Frm (fun k => some k = G) W2 V → V.cell? ⟨g, 0, none⟩ = some (.int .i64 rc) := fun V h => ((KR2.out.frm h (hnG _ _ _ (by decide) KR2.out))).cell 0
  have z1 : ∀ V, Frm (fun k => some k = G) W2 V → V.cell? ⟨g, 1, none⟩ = some (.int .i64 rv) := fun V h => ((KR2.out.frm h (hnG _ _ _ (by decide) KR2.out))).cell 1
  have z2 : ∀ V, Frm (fun k => some k = G) W2 V → V.cell? ⟨g, 2, none⟩ = some (.string rd) := fun V h => ((KR2.out.frm h (hnG _ _ _ (by decide) KR2.out))).cell 2
  have z3 : ∀ V, Frm (fun k => some k = G) W2 V → V.cell? ⟨g, 3, none⟩ = some (.slice A2 N c3) := fun V h => ((KR2.out.frm h (hnG _ _ _ (by decide) KR2.out))).cell 3
  have y0 : ∀ V, Frm (fun k => some k = G) W2 V → V.cell? ⟨P, 0, none⟩ = some (v) := fun V h => ((KP2.out.frm h HNP.out)).cell 0
  have y11 : ∀ V, Frm (fun k => some k = G) W2 V → V.cell? ⟨P, 11, none⟩ = some (.int .i64 xc) := fun V h => ((KP2.out.frm h HNP.out)).cell 11
  have y12 : ∀ V, Frm (fun k => some k = G) W2 V → V.cell? ⟨P, 12, none⟩ = some (.int .i64 sq) := fun V h => ((KP2.out.frm h HNP.out)).cell 12
  have y13 : ∀ V, Frm (fun k => some k = G) W2 V → V.cell? ⟨P, 13, none⟩ = some (.int .i64 xk) := fun V h => ((KP2.out.frm h HNP.out)).cell 13
  have y14 : ∀ V, Frm (fun k => some k = G) W2 V → V.cell? ⟨P, 14, none⟩ = some (.int .i64 xi) := fun V h => ((KP2.out.frm h HNP.out)).cell 14
  have y15 : ∀ V, Frm (fun k => some k = G) W2 V → V.cell? ⟨P, 15, none⟩ = some (.int .i64 xm) := fun V h => ((KP2.out.frm h HNP.out)).cell 15
  have y16 : ∀ V, Frm (fun k => some k = G) W2 V → V.cell? ⟨P, 16, none⟩ = some (.string xd) := fun V h => ((KP2.out.frm h HNP.out)).cell 16
  have Xe : Hid (Ext W2 W2.drew) := (Ext.refl _).drewR
  have E0g : Hid (Frm (fun k => some k = G) W2 W2.drew) := Frm.of_below Xe.out _
  refine rz_begin (fun k => some k = G) [20] (by kernel_rfl) ?_
  refine rz_take [18, 19, 20] (i := 0) (v := ?_) rfl (by kernel_rfl) (by kernel_rfl) (by kernel_rfl) (by kernel_rfl) (by kernel_rfl) (by kernel_rfl) (fun _ _ _ h => h) (by rfl) ?_ ?_
  rotate_left
  · intro W hW; have hW0 := Frm.tr E0g.out hW; clear hW; go_simp <;> with_reducible rfl
  try simp only [Act.put, List.setIfInBounds_toArray, List.set_cons_zero, List.set_cons_succ]
  refine rz_take [2, 3, 4, 17, 18, 19, 20] (i := 1) (v := ?_) rfl (by kernel_rfl) (by kernel_rfl) (by kernel_rfl) (by kernel_rfl) (by kernel_rfl) (by kernel_rfl) (fun _ _ _ h => h) (by rfl) ?_ ?_
  rotate_left
  · intro W hW; have hW0 := Frm.tr E0g.out hW; clear hW; go_simp <;> with_reducible rfl
  try simp only [Act.put, List.setIfInBounds_toArray, List.set_cons_zero, List.set_cons_succ]
  refine rz_take [3, 4, 17, 18, 19, 20] (i := 2) (v := ?_) rfl (by kernel_rfl) (by kernel_rfl) (by kernel_rfl) (by kernel_rfl) (by kernel_rfl) (by kernel_rfl) (fun _ _ _ h => h) (by rfl) ?_ ?_
  rotate_left
  · intro W hW; have hW0 := Frm.tr E0g.out hW; clear hW; go_simp <;> with_reducible rfl
  try simp only [Act.put, List.setIfInBounds_toArray, List.set_cons_zero, List.set_cons_succ]
  refine rz_take [4, 17, 18, 19, 20] (i := 3) (v := ?_) rfl (by kernel_rfl) (by kernel_rfl) (by kernel_rfl) (by kernel_rfl) (by kernel_rfl) (by kernel_rfl) (fun _ _ _ h => h) (by rfl) ?_ ?_
  rotate_left
  · intro W hW; have hW0 := Frm.tr E0g.out hW; clear hW; go_simp <;> with_reducible rfl
  try simp only [Act.put, List.setIfInBounds_toArray, List.set_cons_zero, List.set_cons_succ]
  refine rz_take [17, 18, 19, 20] (i := 4) (v := ?_) rfl (by kernel_rfl) (by kernel_rfl) (by kernel_rfl) (by kernel_rfl) (by kernel_rfl) (by kernel_rfl) (fun _ _ _ h => h) (by rfl) ?_ ?_
  rotate_left
  · intro W hW; have hW0 := Frm.tr E0g.out hW; clear hW; go_simp <;> with_reducible rfl
  try simp only [Act.put, List.setIfInBounds_toArray, List.set_cons_zero, List.set_cons_succ]
  refine rz_take [15, 16, 17, 18, 19, 20] (i := 5) (v := ?_) rfl (by kernel_rfl) (by kernel_rfl) (by kernel_rfl) (by kernel_rfl) (by kernel_rfl) (by kernel_rfl) (fun _ _ _ h => h) (by rfl) ?_ ?_
  rotate_left
  · intro W hW; have hW0 := Frm.tr E0g.out hW; clear hW; go_simp <;> with_reducible rfl
  try simp only [Act.put, List.setIfInBounds_toArray, List.set_cons_zero, List.set_cons_succ]
  refine rz_take [15, 16, 17, 18, 19, 20] (i := 6) (v := ?_) rfl (by kernel_rfl) (by kernel_rfl) (by kernel_rfl) (by kernel_rfl) (by kernel_rfl) (by kernel_rfl) (fun _ _ _ h => h) (by rfl) ?_ ?_
  rotate_left
  · intro W hW; have hW0 := Frm.tr E0g.out hW; clear hW; go_simp <;> with_reducible rfl
  try simp only [Act.put, List.setIfInBounds_toArray, List.set_cons_zero, List.set_cons_succ]
  refine rz_take [9, 10, 11, 12, 15, 16, 17, 18, 19, 20] (i := 7) (v := ?_) rfl (by kernel_rfl) (by kernel_rfl) (by kernel_rfl) (by kernel_rfl) (by kernel_rfl) (by kernel_rfl) (fun _ _ _ h => h) (by rfl) ?_ ?_
  rotate_left
  · intro W hW; have hW0 := Frm.tr E0g.out hW; clear hW; go_simp <;> with_reducible rfl
  try simp only [Act.put, List.setIfInBounds_toArray, List.set_cons_zero, List.set_cons_succ]
  refine rz_take [11, 12, 15, 16, 17, 18, 19, 20] (i := 8) (v := ?_) rfl (by kernel_rfl) (by kernel_rfl) (by kernel_rfl) (by kernel_rfl) (by kernel_rfl) (by kernel_rfl) (fun _ _ _ h => h) (by rfl) ?_ ?_
  rotate_left
  · intro W hW; have hW0 := Frm.tr E0g.out hW; clear hW; go_simp <;> with_reducible rfl
  try simp only [Act.put, List.setIfInBounds_toArray, List.set_cons_zero, List.set_cons_succ]
  refine rz_take [10, 11, 12, 15, 16, 17, 18, 19, 20] (i := 9) (v := ?_) rfl (by kernel_rfl) (by kernel_rfl) (by kernel_rfl) (by kernel_rfl) (by kernel_rfl) (by kernel_rfl) (fun _ _ _ h => h) (by rfl) ?_ ?_
  rotate_left
  · intro W hW; have hW0 := Frm.tr E0g.out hW; clear hW; go_simp <;> with_reducible rfl
  try simp only [Act.put, List.setIfInBounds_toArray, List.set_cons_zero, List.set_cons_succ]
  refine rz_take [11, 12, 15, 16, 17, 18, 19, 20] (i := 10) (v := ?_) rfl (by kernel_rfl) (by kernel_rfl) (by kernel_rfl) (by kernel_rfl) (by kernel_rfl) (by kernel_rfl) (fun _ _ _ h => h) (by rfl) ?_ ?_
  rotate_left
  · intro W hW; have hW0 := Frm.tr E0g.out hW; clear hW; go_simp <;> with_reducible rfl
  try simp only [Act.put, List.setIfInBounds_toArray, List.set_cons_zero, List.set_cons_succ]
  refine rz_take [12, 15, 16, 17, 18, 19, 20] (i := 11) (v := ?_) rfl (by kernel_rfl) (by kernel_rfl) (by kernel_rfl) (by kernel_rfl) (by kernel_rfl) (by kernel_rfl) (fun _ _ _ h => h) (by rfl) ?_ ?_
  rotate_left
  · intro W hW; have hW0 := Frm.tr E0g.out hW; clear hW; go_simp <;> with_reducible rfl
  try simp only [Act.put, List.setIfInBounds_toArray, List.set_cons_zero, List.set_cons_succ]
  refine rz_take [15, 16, 17, 18, 19, 20] (i := 12) (v := ?_) rfl (by kernel_rfl) (by kernel_rfl) (by kernel_rfl) (by kernel_rfl) (by kernel_rfl) (by kernel_rfl) (fun _ _ _ h => h) (by rfl) ?_ ?_
  rotate_left
  · intro W hW; have hW0 := Frm.tr E0g.out hW; clear hW; go_simp <;> with_reducible rfl
  try simp only [Act.put, List.setIfInBounds_toArray, List.set_cons_zero, List.set_cons_succ]
  refine rz_take [15, 16, 17, 18, 19, 20] (i := 13) (v := ?_) rfl (by kernel_rfl) (by kernel_rfl) (by kernel_rfl) (by kernel_rfl) (by kernel_rfl) (by kernel_rfl) (fun _ _ _ h => h) (by rfl) ?_ ?_
  rotate_left
  · intro W hW; have hW0 := Frm.tr E0g.out hW; clear hW; go_simp <;> with_reducible rfl
  try simp only [Act.put, List.setIfInBounds_toArray, List.set_cons_zero, List.set_cons_succ]
  refine rz_take [15, 16, 17, 18, 19, 20] (i := 14) (v := ?_) rfl (by kernel_rfl) (by kernel_rfl) (by kernel_rfl) (by kernel_rfl) (by kernel_rfl) (by kernel_rfl) (fun _ _ _ h => h) (by rfl) ?_ ?_
  rotate_left
  · intro W hW; have hW0 := Frm.tr E0g.out hW; clear hW; go_simp <;> with_reducible rfl
  try simp only [Act.put, List.setIfInBounds_toArray, List.set_cons_zero, List.set_cons_succ]
  refine rz_take [16, 17, 18, 19, 20] (i := 15) (v := ?_) rfl (by kernel_rfl) (by kernel_rfl) (by kernel_rfl) (by kernel_rfl) (by kernel_rfl) (by kernel_rfl) (fun _ _ _ h => h) (by rfl) ?_ ?_
  rotate_left
  · intro W hW; have hW0 := Frm.tr E0g.out hW; clear hW; go_simp <;> with_reducible rfl
  try simp only [Act.put, List.setIfInBounds_toArray, List.set_cons_zero, List.set_cons_succ]
  refine rz_call (i := 16) rfl (by kernel_rfl) (by rfl) (fun K hK => ?_)
  go_simp
  refine hK _ _ (Frm.of_alloc _ _ _) ?_; clear hK K
  obtain ⟨W3, hW3⟩ : ∃ W3, W3 = (W2.alloc (.cells #[.int .i64 1, .int .i64 sq, .bool true, .int .i64 xc, .int .i64 sq, .int .i64 xk, .int .i64 xi, .int .i64 xm, .string xd, .int .i64 rc, .int .i64 rv, .string rd, .slice A2 N c3, .int .i64 at_] 50)).drew := ⟨_, rfl⟩
  have KR3 : Hid (Blk W3 W2.drew.heap.size 50 #[.int .i64 1, .int .i64 sq, .bool true, .int .i64 xc, .int .i64 sq, .int .i64 xk, .int .i64 xi, .int .i64 xm, .string xd, .int .i64 rc, .int .i64 rv, .string rd, .slice A2 N c3, .int .i64 at_]) := by (show Blk _ _ _ _); rw [hW3]; exact Blk.new W2.drew _ _
  have X3 : Hid (Ext W2.drew W3) := by (show Ext _ _); rw [hW3]; exact Ext.alloc W2.drew _
  have E3 : Hid (Frm (fun k => some k = G) W2 W3) := Frm.tr E0g.out (Frm.of_below X3.out _)
  try rw [← hW3]
  clear hW3
  try simp only [Act.put, List.setIfInBounds_toArray, List.set_cons_zero, List.set_cons_succ]
  refine rz_call (i := 17) rfl (by kernel_rfl) (by rfl) (fun K hK => ?_)
  refine wp_append_wide (.tmp 55) (.tmp 67) 26 rfl base 50 _ 14 144 Try.underlying26 info_act rfl (by decide) (by decide) v L.length (flatA L) rfl (own_frmN HOWN2.out (Frm.of_below (Ext.trans Xe.out X3.out) (fun _ => False)) (fun _ _ h => h)) W2.drew.heap.size [.int .i64 1, .int .i64 sq, .bool true, .int .i64 xc, .int .i64 sq, .int .i64 xk, .int .i64 xi, .int .i64 xm, .string xd, .int .i64 rc, .int .i64 rv, .string rd, .slice A2 N c3, .int .i64 at_] rfl rfl KR3.out (by intro y hy; simp at hy; rcases hy with rfl | rfl | rfl | rfl | rfl | rfl | rfl | rfl | rfl | rfl | rfl | rfl | rfl | rfl <;> rfl) HLN.out (Nat.le_trans HBS.out (Nat.le_trans X2.out.size (Nat.le_trans Xe.out.size X3.out.size))) ?_
  intro v2 W4 oo gg bb
  obtain ⟨A3, cap3, hv3⟩ := own_shape oo
  subst hv3
  refine hK _ _ (Frm.of_grown gg (fun k hk => hk.trans HG.out)) ?_; clear hK K
  have O4 := Lib.hid oo
  have BB4 := Lib.hid bb
  have E4 : Hid (Frm (fun k => some k = G) W2 W4) := Frm.tr E3.out (Frm.of_grown gg (fun k hk => hk.trans HG.out))
  clear oo gg bb
  have KP4 : Hid (Blk W4 P 32 #[v, .int .i64 l0, .int .i64 l1, .int .i64 l2, .int .i64 l3, .int .i64 (wq o0).c, .int .i64 (wq o0).s, .int .i64 (wq o0).k, .int .i64 (wq o0).i, .int .i64 (wq o0).m, .string (wq o0).d, .int .i64 xc, .int .i64 sq, .int .i64 xk, .int .i64 xi, .int .i64 xm, .string xd, .int .i64 (wq o2).c, .int .i64 (wq o2).s, .int .i64 (wq o2).k, .int .i64 (wq o2).i, .int .i64 (wq o2).m, .string (wq o2).d, .int .i64 (wq o3).c, .int .i64 (wq o3).s, .int .i64 (wq o3).k, .int .i64 (wq o3).i, .int .i64 (wq o3).m, .string (wq o3).d]) := KP2.out.frm E4.out (fun e => HNP.out e)
  try simp only [Act.put, List.setIfInBounds_toArray, List.set_cons_zero, List.set_cons_succ]
  refine rz_take [19, 20] (i := 18) (v := ?_) rfl (by kernel_rfl) (by kernel_rfl) (by kernel_rfl) (by kernel_rfl) (by kernel_rfl) (by kernel_rfl) (fun _ _ _ h => h) (by rfl) ?_ ?_
  rotate_left
  · intro W hW; have hW0 := Frm.tr E4.out hW; clear hW; go_simp <;> with_reducible rfl
  try simp only [Act.put, List.setIfInBounds_toArray, List.set_cons_zero, List.set_cons_succ]
  refine rz_take [20] (i := 19) (v := ?_) rfl (by kernel_rfl) (by kernel_rfl) (by kernel_rfl) (by kernel_rfl) (by kernel_rfl) (by kernel_rfl) (fun _ _ _ h => h) (by rfl) ?_ ?_
  rotate_left
  · intro W hW; have hW0 := Frm.tr E4.out hW; clear hW; go_simp <;> with_reducible rfl
  try simp only [Act.put, List.setIfInBounds_toArray, List.set_cons_zero, List.set_cons_succ]
  refine rz_last (i := 20) rfl (by kernel_rfl) (by rfl) (by rfl) (fun K hK => ?_)
  have q1 := KP4.out.frozen 0
  have r1 := KP4.out.cell 0
  simp at r1
  go_simp
  refine hK _ _ ?_; clear hK K q1 r1
  obtain ⟨W5, hW5⟩ : ∃ W5, W5 = W4.setCell ⟨P, 0, none⟩ (.slice A3 (L.length + 1) cap3) := ⟨_, rfl⟩
  have KP5 : Hid (Blk W5 P 32 #[.slice A3 (L.length + 1) cap3, .int .i64 l0, .int .i64 l1, .int .i64 l2, .int .i64 l3, .int .i64 (wq o0).c, .int .i64 (wq o0).s, .int .i64 (wq o0).k, .int .i64 (wq o0).i, .int .i64 (wq o0).m, .string (wq o0).d, .int .i64 xc, .int .i64 sq, .int .i64 xk, .int .i64 xi, .int .i64 xm, .string xd, .int .i64 (wq o2).c, .int .i64 (wq o2).s, .int .i64 (wq o2).k, .int .i64 (wq o2).i, .int .i64 (wq o2).m, .string (wq o2).d, .int .i64 (wq o3).c, .int .i64 (wq o3).s, .int .i64 (wq o3).k, .int .i64 (wq o3).i, .int .i64 (wq o3).m, .string (wq o3).d]) := by (show Blk _ _ _ _); rw [hW5]; exact KP4.out.set 0 _
  have F5 : Hid (Frm (fun k => k = P) W4 W5) := by (show Frm _ _ _); rw [hW5]; exact Frm.of_set _ _ _ rfl
  try rw [← hW5]
  clear hW5
  try simp only [Act.put, List.setIfInBounds_toArray, List.set_cons_zero, List.set_cons_succ]
  refine rz_done (by kernel_rfl) ?_ _
  clear z0 z1 z2 z3 y0 y11 y12 y13 y14 y15 y16
  have k11 := KP5.out.cell 11
  have g11 := KP5.out.frozen 11
  have k12 := KP5.out.cell 12
  have g12 := KP5.out.frozen 12
  have k13 := KP5.out.cell 13
  have g13 := KP5.out.frozen 13
  have k14 := KP5.out.cell 14
  have g14 := KP5.out.frozen 14
  have k15 := KP5.out.cell 15
  have g15 := KP5.out.frozen 15
  have k16 := KP5.out.cell 16
  have g16 := KP5.out.frozen 16
  simp at k11 k12 k13 k14 k15 k16
  go_wp2_with fail
  try go_ret
  obtain ⟨W6, hW6⟩ : ∃ W6, W6 = ((((((W5.setCell ⟨P, 11, none⟩ (.int .i64 0)).setCell ⟨P, 12, none⟩ (.int .i64 0)).setCell ⟨P, 13, none⟩ (.int .i64 0)).setCell ⟨P, 14, none⟩ (.int .i64 0)).setCell ⟨P, 15, none⟩ (.int .i64 0)).setCell ⟨P, 16, none⟩ (.string ⟨#[]⟩)) := ⟨_, rfl⟩
  have KP6 : Blk W6 P 32 #[.slice A3 (L.length + 1) cap3, .int .i64 l0, .int .i64 l1, .int .i64 l2, .int .i64 l3, .int .i64 (wq o0).c, .int .i64 (wq o0).s, .int .i64 (wq o0).k, .int .i64 (wq o0).i, .int .i64 (wq o0).m, .string (wq o0).d, .int .i64 0, .int .i64 0, .int .i64 0, .int .i64 0, .int .i64 0, .string ⟨#[]⟩, .int .i64 (wq o2).c, .int .i64 (wq o2).s, .int .i64 (wq o2).k, .int .i64 (wq o2).i, .int .i64 (wq o2).m, .string (wq o2).d, .int .i64 (wq o3).c, .int .i64 (wq o3).s, .int .i64 (wq o3).k, .int .i64 (wq o3).i, .int .i64 (wq o3).m, .string (wq o3).d] := by rw [hW6]; exact ((((((KP5.out.set 11 (.int .i64 0)).set 12 (.int .i64 0)).set 13 (.int .i64 0)).set 14 (.int .i64 0)).set 15 (.int .i64 0)).set 16 (.string ⟨#[]⟩))
  have F6 : Frm (fun k => k = P) W4 W6 := by rw [hW6]; exact Frm.tr (Frm.tr (Frm.tr (Frm.tr (Frm.tr (Frm.tr (F5.out) (Frm.of_set _ _ _ rfl)) (Frm.of_set _ _ _ rfl)) (Frm.of_set _ _ _ rfl)) (Frm.of_set _ _ _ rfl)) (Frm.of_set _ _ _ rfl)) (Frm.of_set _ _ _ rfl)
  try rw [← hW6]
  clear hW6
  have FA2 : Frm (Psel P G) W2 W6 := Frm.tr (E4.out.mono (fun k hk => Or.inr hk)) (F6.mono (fun k hk => Or.inl hk))
  have FA : Frm (Psel P G) w W6 := Frm.tr (Frm.of_below X2.out _) FA2
  have hkeep : ∀ k cs, Blk W2 k 3 cs → Blk W6 k 3 cs := fun k cs h => h.frm FA2 (fun hh => by
    rcases hh with hh | hh
    · subst hh; exact Blk.apart h KP2.out (by decide) rfl
    · exact hnG k _ cs (by decide) h hh)
  have O5 : W6.ownsRow base 50 14 (.slice A3 (L.length + 1) cap3) (L ++ [At.mk (Ac.mk 1 sq true (Rqv.mk xc sq xk xi xm xd) (Rpv.mk rc rv rd rl) at_) A2 c3]).length (flatA (L ++ [At.mk (Ac.mk 1 sq true (Rqv.mk xc sq xk xi xm xd) (Rpv.mk rc rv rd rl) at_) A2 c3])) := by
    rw [flatA_append, List.length_append]
    have h7 := own_frmN O4.out F6 (fun k hk e => own_blkne O4.out KP4.out (by decide) k hk e)
    have h8 : flatA [At.mk (Ac.mk 1 sq true (Rqv.mk xc sq xk xi xm xd) (Rpv.mk rc rv rd rl) at_) A2 c3] = [.int .i64 1, .int .i64 sq, .bool true, .int .i64 xc, .int .i64 sq, .int .i64 xk, .int .i64 xi, .int .i64 xm, .string xd, .int .i64 rc, .int .i64 rv, .string rd, .slice A2 N c3, .int .i64 at_] := by simp [flatA, acRow, HNN.out]
    rw [h8]
    exact h7
  refine hD.out _ _ ⟨rfl, _, ⟨HBP.out, .slice A3 (L.length + 1) cap3, l0, l1, l2, l3, o0, none, o2, o3, L ++ [At.mk (Ac.mk 1 sq true (Rqv.mk xc sq xk xi xm xd) (Rpv.mk rc rv rd rl) at_) A2 c3], KP6, HLS.out, ?_, O5, rfl, ?_, ?_⟩, FA, ?_⟩
  · show st.wait.set 1 none = _
    rw [HWS.out]; rfl
  · show _ = st.acts ++ [(⟨1, sq, true, (st.w 1).getD ⟨0, 0, 0, 0, 0, ⟨#[]⟩⟩, ⟨rc, rv, rd, rl⟩, at_⟩ : Ac)]
    rw [HOS.out, List.map_append, HL.out]; rfl
  · intro t ht
    rw [List.mem_append, List.mem_singleton] at ht
    rcases ht with ht | rfl
    · exact ((HIN.out t ht).stay X2.out).of (fun k cs h => hkeep k cs h)
    · exact IN2.out.of (fun k cs h => hkeep k cs h)
  · rcases BB4.out with h5 | h5
    · exact .inl (h5.trans HG.out)
    · exact .inr ⟨_, h5, Nat.le_trans X2.out.size (Nat.le_trans Xe.out.size X3.out.size)⟩

set_option maxRecDepth 8000 in
set_option maxHeartbeats 8000000 in
theorem rans_none2 (base P : Nat) (G : Option Nat) (st : Ps) (sq rc rv : Int) (rd : ByteArray) (rA : Option Addr) (rcap : Nat) (rl : List Int) (at_ : Int) (w : World) (H : RAt w base P G st) (h0 : ¬ at_ < 0) (h1 : ¬ 1073741824 < at_) (hs : st.w 2 = none) :
    Calls Try.prog 14 #[.pointer (some ⟨P, 0, none⟩), .int .i64 2, .int .i64 sq, .agg #[.int .i64 rc, .int .i64 rv, .string rd, .slice rA rl.length rcap], .int .i64 at_] w fun e w' => e = .returned (.int .i64 4) ∧ Ext w w' := by
  refine hide_post fun D hD => ?_
  generalize hN : rl.length = N at *
  obtain ⟨hbP, v, l0, l1, l2, l3, o0, o1, o2, o3, L, kP, hl, hw, hown, hG, hL, hin⟩ := H
  have ho : o2 = none := by unfold Ps.w at hs; rw [hw] at hs; exact hs
  subst ho
  obtain ⟨w0, hw0⟩ : ∃ w0, w0 = w.alloc (.cells #[.int .i64 rc, .int .i64 rv, .string rd, .slice rA N rcap] 35) := ⟨_, rfl⟩
  have hb0 : Ext w w0 := by rw [hw0]; exact Ext.alloc _ _
  have HW := Lib.hid hw0
  have X0 : Hid (Ext w w0) := hb0
  have XA : Hid (Ext w (w.alloc (.cells #[.int .i64 rc, .int .i64 rv, .string rd, .slice rA N rcap] 35))) := Ext.alloc _ _
  have a18 : ∀ o, (w.alloc o).cell? ⟨P, 18, none⟩ = some (.int .i64 0) := fun o => (kP.stay (Ext.alloc w o)).cell 18
  have hplt := kP.lt
  clear hb0 hw0 kP hl hw hown hG hL hin hs hbP hN
  go_enter Try.func14, Try.ntmps14
  go_wp2_with fail
  try go_ret
  exact hD.out _ _ ⟨rfl, XA.out⟩

set_option maxRecDepth 8000 in
set_option maxHeartbeats 8000000 in
theorem rans_other2 (base P : Nat) (G : Option Nat) (st : Ps) (sq rc rv : Int) (rd : ByteArray) (rA : Option Addr) (rcap : Nat) (rl : List Int) (at_ : Int) (xc xs xk xi xm : Int) (xd : ByteArray) (w : World) (H : RAt w base P G st) (h0 : ¬ at_ < 0) (h1 : ¬ 1073741824 < at_) (hs : st.w 2 = some ⟨xc, xs, xk, xi, xm, xd⟩) (hx1 : 1 ≤ xs) (hq : ¬ xs = sq) :
    Calls Try.prog 14 #[.pointer (some ⟨P, 0, none⟩), .int .i64 2, .int .i64 sq, .agg #[.int .i64 rc, .int .i64 rv, .string rd, .slice rA rl.length rcap], .int .i64 at_] w fun e w' => e = .returned (.int .i64 4) ∧ Ext w w' := by
  refine hide_post fun D hD => ?_
  generalize hN : rl.length = N at *
  obtain ⟨hbP, v, l0, l1, l2, l3, o0, o1, o2, o3, L, kP, hl, hw, hown, hG, hL, hin⟩ := H
  have ho : o2 = some ⟨xc, xs, xk, xi, xm, xd⟩ := by unfold Ps.w at hs; rw [hw] at hs; exact hs
  subst ho
  have hx0 : ¬ xs = 0 := by omega
  have hq1 : (xs == sq) = false := by simp [hq]
  have hx01 : (xs == 0) = false := by simp [hx0]
  obtain ⟨w0, hw0⟩ : ∃ w0, w0 = w.alloc (.cells #[.int .i64 rc, .int .i64 rv, .string rd, .slice rA N rcap] 35) := ⟨_, rfl⟩
  have hb0 : Ext w w0 := by rw [hw0]; exact Ext.alloc _ _
  have HW := Lib.hid hw0
  have X0 : Hid (Ext w w0) := hb0
  have XA : Hid (Ext w (w.alloc (.cells #[.int .i64 rc, .int .i64 rv, .string rd, .slice rA N rcap] 35))) := Ext.alloc _ _
  have a18 : ∀ o, (w.alloc o).cell? ⟨P, 18, none⟩ = some (.int .i64 xs) := fun o => (kP.stay (Ext.alloc w o)).cell 18
  have hplt := kP.lt
  clear hb0 hw0 kP hl hw hown hG hL hin hs hbP hN hx1
  go_enter Try.func14, Try.ntmps14
  go_wp2_with fail
  try go_ret
  exact hD.out _ _ ⟨rfl, XA.out⟩

set_option maxRecDepth 8000 in
set_option maxHeartbeats 8000000 in
theorem rans_ok2 (base P : Nat) (G : Option Nat) (st : Ps) (sq rc rv : Int) (rd : ByteArray) (rA : Option Addr) (rcap : Nat) (rl : List Int) (at_ : Int) (xc xk xi xm : Int) (xd : ByteArray) (w : World) (H : RAt w base P G st) (h0 : ¬ at_ < 0) (h1 : ¬ 1073741824 < at_) (hs : st.w 2 = some ⟨xc, sq, xk, xi, xm, xd⟩) (hx1 : 1 ≤ sq) (hn : st.acts.length ≤ 1000000) (hrl : rl.length ≤ 1000000) (hr : Sl i64 w rA rl) :
    Calls Try.prog 14 #[.pointer (some ⟨P, 0, none⟩), .int .i64 2, .int .i64 sq, .agg #[.int .i64 rc, .int .i64 rv, .string rd, .slice rA rl.length rcap], .int .i64 at_] w fun e w' => e = .returned (.int .i64 0) ∧ ROut w w' base P G (ansS st 2 sq ⟨rc, rv, rd, rl⟩ at_) := by
  refine hide_post fun D hD => ?_
  generalize hN : rl.length = N at *
  have hlt := H.lt
  obtain ⟨hbP, v, l0, l1, l2, l3, o0, o1, o2, o3, L, kP, hl, hw, hown, hG, hL, hin⟩ := H
  have ho : o2 = some ⟨xc, sq, xk, xi, xm, xd⟩ := by unfold Ps.w at hs; rw [hw] at hs; exact hs
  subst ho
  have hx0 : ¬ sq = 0 := by omega
  obtain ⟨w0, hw0⟩ : ∃ w0, w0 = w.alloc (.cells #[.int .i64 rc, .int .i64 rv, .string rd, .slice rA N rcap] 35) := ⟨_, rfl⟩
  have hb0 : Ext w w0 := by rw [hw0]; exact Ext.alloc _ _
  have HW := Lib.hid hw0
  have X0 : Hid (Ext w w0) := hb0
  have XA : Hid (Ext w (w.alloc (.cells #[.int .i64 rc, .int .i64 rv, .string rd, .slice rA N rcap] 35))) := Ext.alloc _ _
  have KR : Hid (Blk w0 w.heap.size 35 #[.int .i64 rc, .int .i64 rv, .string rd, .slice rA N rcap]) := by show Blk _ _ _ _; rw [hw0]; exact Blk.new _ _ _
  have hLn : L.length ≤ 1000000000 := by have h5 := congrArg List.length hL; rw [List.length_map] at h5; omega
  have HLN : Hid (L.length ≤ 1000000000) := hLn
  have HNN := Lib.hid hN
  have HKPw := Lib.hid kP
  have HOWNw := Lib.hid hown
  have HG : Hid (v.ownBlock = G) := hG
  have HL := Lib.hid hL
  have HIN := Lib.hid hin
  have HBP : Hid (base ≤ P) := hbP
  have HBS : Hid (base ≤ w.heap.size) := Nat.le_trans hbP (Nat.le_of_lt hlt)
  have HLS := Lib.hid hl
  have HWS := Lib.hid hw
  have HOS : Hid (st.w 2 = some ⟨xc, sq, xk, xi, xm, xd⟩) := hs
  have HNP : Hid (¬ some P = G) := fun e => by
    obtain ⟨cs, hc⟩ := own_blk hown (hG.trans e.symm)
    exact Blk.apart kP hc (by decide) rfl
  have HSR : Hid (∀ V, Ext w V → Sl i64 V rA rl) := fun V h => hr.stay h
  have HRL : Hid (rl.length ≤ 1000000) := by (show _ ≤ _); omega
  obtain ⟨g, hg⟩ : ∃ g, g = w.heap.size := ⟨_, rfl⟩
  have HGG := Lib.hid hg
  have hgP : ¬ g = P := by omega
  have a18 : ∀ o, (w.alloc o).cell? ⟨P, 18, none⟩ = some (.int .i64 sq) := fun o => (kP.stay (Ext.alloc w o)).cell 18
  have hplt := hlt
  have r3 : ∀ o, ((w.alloc (.cells #[.int .i64 rc, .int .i64 rv, .string rd, .slice rA N rcap] 35)).alloc o).cell? ⟨w.heap.size, 3, none⟩ = some (.slice rA N rcap) := fun o => ((Blk.new w _ _).stay (Ext.alloc _ o)).cell 3
  have hz0 : w0.heap.size = w.heap.size + 1 := by rw [hw0]; simp
  have hm : Hid ((w0.alloc (.cells #[] 3)).ownsRow (w.heap.size + 1) 3 1 (.slice (some ⟨w.heap.size + 1, 0, none⟩) 0 0) 0 []) := by
    have h7 := World.ownsRow_made (base := w0.heap.size) (e := 3) (size := 1) w0 #[] 0 (Nat.le_refl _) (Nat.zero_le _) rfl
    rw [hz0] at h7
    exact h7
  have HZ0 := Lib.hid hz0
  clear hb0 hw0 kP hl hw hown hG hL hin hs hlt hbP hLn hn hrl hr hN hg hx1 hz0
  go_enter Try.func14, Try.ntmps14
  go_upto_region 6 with (at_builtin; rw [← HW.out]; refine wpList_append_list rfl _ _ 33 rfl (w.heap.size + 1) 3 (.int .i64 0) 8 Try.underlying33 info_int rfl (by omega) (.slice (some ⟨w.heap.size + 1, 0, none⟩) 0 0) 0 [] rfl hm.out i64 rA rl N rcap HNN.out.symm rfl (HSR.out _ (Ext.trans X0.out (Ext.alloc _ _))) (fun _ => rfl) (by have := HRL.out; omega) (by have := HZ0.out; (try simp) <;> omega) ?_; intro v' w1 h1' h2' h3'; rw [Nat.zero_add, HNN.out] at h1'; obtain ⟨A2, c2, hv2⟩ := own_shape h1'; subst hv2; have O1 := Lib.hid h1'; have G1 := Lib.hid h2'; have KR1 : Hid (Blk w1 w.heap.size 35 #[.int .i64 rc, .int .i64 rv, .string rd, .slice rA N rcap]) := (KR.out.alloc _).grown h2' (fun e => by have e2 := Option.some.inj (show some w.heap.size = some (w.heap.size + 1) from e); omega); have X1 : Hid (Ext w0 w1) := ((Below.refl _ _).alloc (Nat.le_refl _) _).grown h2' (by simp) (fun k hk => by have e2 := Option.some.inj (show some (w.heap.size + 1) = some k from hk); have := HZ0.out; omega); have q3 := KR1.out.cell 3; have f3 := KR1.out.frozen 3; simp at q3; clear h1' h2' h3')
  rw [← HGG.out]
  have IN1 : Hid (∃ c3, In w1 A2 c3 rl ∧ c3 = c2) := by
    have h7 := O1.out
    rw [List.nil_append, ← HNN.out] at h7
    obtain ⟨A5, c5, e5, h8⟩ := In.own h7
    injection e5 with e6 e7 e8
    subst e6 e8
    exact ⟨_, h8, rfl⟩
  obtain ⟨c3, in1, hc3⟩ := IN1.out
  subst hc3
  obtain ⟨W2, hW2⟩ : ∃ W2, W2 = w1.setCell ⟨g, 3, none⟩ (.slice A2 N c3) := ⟨_, rfl⟩
  have HK1 : Hid (Blk w1 g 35 #[.int .i64 rc, .int .i64 rv, .string rd, .slice rA N rcap]) := by (show Blk _ _ _ _); rw [HGG.out]; exact KR1.out
  have KR2 : Hid (Blk W2 g 35 #[.int .i64 rc, .int .i64 rv, .string rd, .slice A2 N c3]) := by (show Blk _ _ _ _); rw [hW2]; exact HK1.out.set 3 _
  have FG : Hid (Frm (fun k => k = g) w1 W2) := by (show Frm _ _ _); rw [hW2]; exact Frm.of_set _ _ _ rfl
  have X2 : Hid (Ext w W2) := Frm.step (Ext.trans X0.out X1.out) FG.out (Ext.trans X0.out X1.out).size (by rintro k rfl; rw [HGG.out]; exact Nat.le_refl _)
  have IN2 : Hid (In W2 A2 c3 rl) := in1.of (fun k cs h => h.frm FG.out (Blk.apart h HK1.out (by decide)))
  have KP2 := Lib.hid (HKPw.out.stay X2.out)
  have HOWN2 := Lib.hid (own_frmN HOWNw.out (Frm.of_below X2.out (fun _ => False)) (fun _ _ h => h))
  try rw [← hW2]
  clear hW2 q3 f3 a18 r3 in1 IN1
  have hnG : ∀ k t cs, t ≠ 50 → Blk W2 k t cs → ¬ some k = G := fun k t cs ht h e => by
    obtain ⟨cs', hc⟩ := own_blk HOWN2.out (HG.out.trans e.symm)
    exact Blk.apart h hc ht rfl
  have z0 : ∀ V, Frm (fun k => some k = G) W2 V → V.cell? ⟨g, 0, none⟩ = some (.int .i64 rc) := fun V h => ((KR2.out.frm h (hnG _ _ _ (by decide) KR2.out))).cell 0
  have z1 : ∀ V, Frm (fun k => some k = G) W2 V → V.cell? ⟨g, 1, none⟩ = some (.int .i64 rv) := fun V h => ((KR2.out.frm h (hnG _ _ _ (by decide) KR2.out))).cell 1
  have z2 : ∀ V, Frm (fun k => some k = G) W2 V → V.cell? ⟨g, 2, none⟩ = some (.string rd) := fun V h => ((KR2.out.frm h (hnG _ _ _ (by decide) KR2.out))).cell 2
  have z3 : ∀ V, Frm (fun k => some k = G) W2 V → V.cell? ⟨g, 3, none⟩ = some (.slice A2 N c3) := fun V h => ((KR2.out.frm h (hnG _ _ _ (by decide) KR2.out))).cell 3
  have y0 : ∀ V, Frm (fun k => some k = G) W2 V → V.cell? ⟨P, 0, none⟩ = some (v) := fun V h => ((KP2.out.frm h HNP.out)).cell 0
  have y17 : ∀ V, Frm (fun k => some k = G) W2 V → V.cell? ⟨P, 17, none⟩ = some (.int .i64 xc) := fun V h => ((KP2.out.frm h HNP.out)).cell 17
  have y18 : ∀ V, Frm (fun k => some k = G) W2 V → V.cell? ⟨P, 18, none⟩ = some (.int .i64 sq) := fun V h => ((KP2.out.frm h HNP.out)).cell 18
  have y19 : ∀ V, Frm (fun k => some k = G) W2 V → V.cell? ⟨P, 19, none⟩ = some (.int .i64 xk) := fun V h => ((KP2.out.frm h HNP.out)).cell 19
  have y20 : ∀ V, Frm (fun k => some k = G) W2 V → V.cell? ⟨P, 20, none⟩ = some (.int .i64 xi) := fun V h => ((KP2.out.frm h HNP.out)).cell 20
  have y21 : ∀ V, Frm (fun k => some k = G) W2 V → V.cell? ⟨P, 21, none⟩ = some (.int .i64 xm) := fun V h => ((KP2.out.frm h HNP.out)).cell 21
  have y22 : ∀ V, Frm (fun k => some k = G) W2 V → V.cell? ⟨P, 22, none⟩ = some (.string xd) := fun V h => ((KP2.out.frm h HNP.out)).cell 22
  have Xe : Hid (Ext W2 W2.drew) := (Ext.refl _).drewR
  have E0g : Hid (Frm (fun k => some k = G) W2 W2.drew) := Frm.of_below Xe.out _
  refine rz_begin (fun k => some k = G) [20] (by kernel_rfl) ?_
  refine rz_take [18, 19, 20] (i := 0) (v := ?_) rfl (by kernel_rfl) (by kernel_rfl) (by kernel_rfl) (by kernel_rfl) (by kernel_rfl) (by kernel_rfl) (fun _ _ _ h => h) (by rfl) ?_ ?_
  rotate_left
  · intro W hW; have hW0 := Frm.tr E0g.out hW; clear hW; go_simp <;> with_reducible rfl
  try simp only [Act.put, List.setIfInBounds_toArray, List.set_cons_zero, List.set_cons_succ]
  refine rz_take [2, 3, 4, 17, 18, 19, 20] (i := 1) (v := ?_) rfl (by kernel_rfl) (by kernel_rfl) (by kernel_rfl) (by kernel_rfl) (by kernel_rfl) (by kernel_rfl) (fun _ _ _ h => h) (by rfl) ?_ ?_
  rotate_left
  · intro W hW; have hW0 := Frm.tr E0g.out hW; clear hW; go_simp <;> with_reducible rfl
  try simp only [Act.put, List.setIfInBounds_toArray, List.set_cons_zero, List.set_cons_succ]
  refine rz_take [3, 4, 17, 18, 19, 20] (i := 2) (v := ?_) rfl (by kernel_rfl) (by kernel_rfl) (by kernel_rfl) (by kernel_rfl) (by kernel_rfl) (by kernel_rfl) (fun _ _ _ h => h) (by rfl) ?_ ?_
  rotate_left
  · intro W hW; have hW0 := Frm.tr E0g.out hW; clear hW; go_simp <;> with_reducible rfl
  try simp only [Act.put, List.setIfInBounds_toArray, List.set_cons_zero, List.set_cons_succ]
  refine rz_take [4, 17, 18, 19, 20] (i := 3) (v := ?_) rfl (by kernel_rfl) (by kernel_rfl) (by kernel_rfl) (by kernel_rfl) (by kernel_rfl) (by kernel_rfl) (fun _ _ _ h => h) (by rfl) ?_ ?_
  rotate_left
  · intro W hW; have hW0 := Frm.tr E0g.out hW; clear hW; go_simp <;> with_reducible rfl
  try simp only [Act.put, List.setIfInBounds_toArray, List.set_cons_zero, List.set_cons_succ]
  refine rz_take [17, 18, 19, 20] (i := 4) (v := ?_) rfl (by kernel_rfl) (by kernel_rfl) (by kernel_rfl) (by kernel_rfl) (by kernel_rfl) (by kernel_rfl) (fun _ _ _ h => h) (by rfl) ?_ ?_
  rotate_left
  · intro W hW; have hW0 := Frm.tr E0g.out hW; clear hW; go_simp <;> with_reducible rfl
  try simp only [Act.put, List.setIfInBounds_toArray, List.set_cons_zero, List.set_cons_succ]
  refine rz_take [15, 16, 17, 18, 19, 20] (i := 5) (v := ?_) rfl (by kernel_rfl) (by kernel_rfl) (by kernel_rfl) (by kernel_rfl) (by kernel_rfl) (by kernel_rfl) (fun _ _ _ h => h) (by rfl) ?_ ?_
  rotate_left
  · intro W hW; have hW0 := Frm.tr E0g.out hW; clear hW; go_simp <;> with_reducible rfl
  try simp only [Act.put, List.setIfInBounds_toArray, List.set_cons_zero, List.set_cons_succ]
  refine rz_take [15, 16, 17, 18, 19, 20] (i := 6) (v := ?_) rfl (by kernel_rfl) (by kernel_rfl) (by kernel_rfl) (by kernel_rfl) (by kernel_rfl) (by kernel_rfl) (fun _ _ _ h => h) (by rfl) ?_ ?_
  rotate_left
  · intro W hW; have hW0 := Frm.tr E0g.out hW; clear hW; go_simp <;> with_reducible rfl
  try simp only [Act.put, List.setIfInBounds_toArray, List.set_cons_zero, List.set_cons_succ]
  refine rz_take [9, 10, 11, 12, 15, 16, 17, 18, 19, 20] (i := 7) (v := ?_) rfl (by kernel_rfl) (by kernel_rfl) (by kernel_rfl) (by kernel_rfl) (by kernel_rfl) (by kernel_rfl) (fun _ _ _ h => h) (by rfl) ?_ ?_
  rotate_left
  · intro W hW; have hW0 := Frm.tr E0g.out hW; clear hW; go_simp <;> with_reducible rfl
  try simp only [Act.put, List.setIfInBounds_toArray, List.set_cons_zero, List.set_cons_succ]
  refine rz_take [11, 12, 15, 16, 17, 18, 19, 20] (i := 8) (v := ?_) rfl (by kernel_rfl) (by kernel_rfl) (by kernel_rfl) (by kernel_rfl) (by kernel_rfl) (by kernel_rfl) (fun _ _ _ h => h) (by rfl) ?_ ?_
  rotate_left
  · intro W hW; have hW0 := Frm.tr E0g.out hW; clear hW; go_simp <;> with_reducible rfl
  try simp only [Act.put, List.setIfInBounds_toArray, List.set_cons_zero, List.set_cons_succ]
  refine rz_take [10, 11, 12, 15, 16, 17, 18, 19, 20] (i := 9) (v := ?_) rfl (by kernel_rfl) (by kernel_rfl) (by kernel_rfl) (by kernel_rfl) (by kernel_rfl) (by kernel_rfl) (fun _ _ _ h => h) (by rfl) ?_ ?_
  rotate_left
  · intro W hW; have hW0 := Frm.tr E0g.out hW; clear hW; go_simp <;> with_reducible rfl
  try simp only [Act.put, List.setIfInBounds_toArray, List.set_cons_zero, List.set_cons_succ]
  refine rz_take [11, 12, 15, 16, 17, 18, 19, 20] (i := 10) (v := ?_) rfl (by kernel_rfl) (by kernel_rfl) (by kernel_rfl) (by kernel_rfl) (by kernel_rfl) (by kernel_rfl) (fun _ _ _ h => h) (by rfl) ?_ ?_
  rotate_left
  · intro W hW; have hW0 := Frm.tr E0g.out hW; clear hW; go_simp <;> with_reducible rfl
  try simp only [Act.put, List.setIfInBounds_toArray, List.set_cons_zero, List.set_cons_succ]
  refine rz_take [12, 15, 16, 17, 18, 19, 20] (i := 11) (v := ?_) rfl (by kernel_rfl) (by kernel_rfl) (by kernel_rfl) (by kernel_rfl) (by kernel_rfl) (by kernel_rfl) (fun _ _ _ h => h) (by rfl) ?_ ?_
  rotate_left
  · intro W hW; have hW0 := Frm.tr E0g.out hW; clear hW; go_simp <;> with_reducible rfl
  try simp only [Act.put, List.setIfInBounds_toArray, List.set_cons_zero, List.set_cons_succ]
  refine rz_take [15, 16, 17, 18, 19, 20] (i := 12) (v := ?_) rfl (by kernel_rfl) (by kernel_rfl) (by kernel_rfl) (by kernel_rfl) (by kernel_rfl) (by kernel_rfl) (fun _ _ _ h => h) (by rfl) ?_ ?_
  rotate_left
  · intro W hW; have hW0 := Frm.tr E0g.out hW; clear hW; go_simp <;> with_reducible rfl
  try simp only [Act.put, List.setIfInBounds_toArray, List.set_cons_zero, List.set_cons_succ]
  refine rz_take [15, 16, 17, 18, 19, 20] (i := 13) (v := ?_) rfl (by kernel_rfl) (by kernel_rfl) (by kernel_rfl) (by kernel_rfl) (by kernel_rfl) (by kernel_rfl) (fun _ _ _ h => h) (by rfl) ?_ ?_
  rotate_left
  · intro W hW; have hW0 := Frm.tr E0g.out hW; clear hW; go_simp <;> with_reducible rfl
  try simp only [Act.put, List.setIfInBounds_toArray, List.set_cons_zero, List.set_cons_succ]
  refine rz_take [15, 16, 17, 18, 19, 20] (i := 14) (v := ?_) rfl (by kernel_rfl) (by kernel_rfl) (by kernel_rfl) (by kernel_rfl) (by kernel_rfl) (by kernel_rfl) (fun _ _ _ h => h) (by rfl) ?_ ?_
  rotate_left
  · intro W hW; have hW0 := Frm.tr E0g.out hW; clear hW; go_simp <;> with_reducible rfl
  try simp only [Act.put, List.setIfInBounds_toArray, List.set_cons_zero, List.set_cons_succ]
  refine rz_take [16, 17, 18, 19, 20] (i := 15) (v := ?_) rfl (by kernel_rfl) (by kernel_rfl) (by kernel_rfl) (by kernel_rfl) (by kernel_rfl) (by kernel_rfl) (fun _ _ _ h => h) (by rfl) ?_ ?_
  rotate_left
  · intro W hW; have hW0 := Frm.tr E0g.out hW; clear hW; go_simp <;> with_reducible rfl
  try simp only [Act.put, List.setIfInBounds_toArray, List.set_cons_zero, List.set_cons_succ]
  refine rz_call (i := 16) rfl (by kernel_rfl) (by rfl) (fun K hK => ?_)
  go_simp
  refine hK _ _ (Frm.of_alloc _ _ _) ?_; clear hK K
  obtain ⟨W3, hW3⟩ : ∃ W3, W3 = (W2.alloc (.cells #[.int .i64 2, .int .i64 sq, .bool true, .int .i64 xc, .int .i64 sq, .int .i64 xk, .int .i64 xi, .int .i64 xm, .string xd, .int .i64 rc, .int .i64 rv, .string rd, .slice A2 N c3, .int .i64 at_] 50)).drew := ⟨_, rfl⟩
  have KR3 : Hid (Blk W3 W2.drew.heap.size 50 #[.int .i64 2, .int .i64 sq, .bool true, .int .i64 xc, .int .i64 sq, .int .i64 xk, .int .i64 xi, .int .i64 xm, .string xd, .int .i64 rc, .int .i64 rv, .string rd, .slice A2 N c3, .int .i64 at_]) := by (show Blk _ _ _ _); rw [hW3]; exact Blk.new W2.drew _ _
  have X3 : Hid (Ext W2.drew W3) := by (show Ext _ _); rw [hW3]; exact Ext.alloc W2.drew _
  have E3 : Hid (Frm (fun k => some k = G) W2 W3) := Frm.tr E0g.out (Frm.of_below X3.out _)
  try rw [← hW3]
  clear hW3
  try simp only [Act.put, List.setIfInBounds_toArray, List.set_cons_zero, List.set_cons_succ]
  refine rz_call (i := 17) rfl (by kernel_rfl) (by rfl) (fun K hK => ?_)
  refine wp_append_wide (.tmp 55) (.tmp 67) 26 rfl base 50 _ 14 144 Try.underlying26 info_act rfl (by decide) (by decide) v L.length (flatA L) rfl (own_frmN HOWN2.out (Frm.of_below (Ext.trans Xe.out X3.out) (fun _ => False)) (fun _ _ h => h)) W2.drew.heap.size [.int .i64 2, .int .i64 sq, .bool true, .int .i64 xc, .int .i64 sq, .int .i64 xk, .int .i64 xi, .int .i64 xm, .string xd, .int .i64 rc, .int .i64 rv, .string rd, .slice A2 N c3, .int .i64 at_] rfl rfl KR3.out (by intro y hy; simp at hy; rcases hy with rfl | rfl | rfl | rfl | rfl | rfl | rfl | rfl | rfl | rfl | rfl | rfl | rfl | rfl <;> rfl) HLN.out (Nat.le_trans HBS.out (Nat.le_trans X2.out.size (Nat.le_trans Xe.out.size X3.out.size))) ?_
  intro v2 W4 oo gg bb
  obtain ⟨A3, cap3, hv3⟩ := own_shape oo
  subst hv3
  refine hK _ _ (Frm.of_grown gg (fun k hk => hk.trans HG.out)) ?_; clear hK K
  have O4 := Lib.hid oo
  have BB4 := Lib.hid bb
  have E4 : Hid (Frm (fun k => some k = G) W2 W4) := Frm.tr E3.out (Frm.of_grown gg (fun k hk => hk.trans HG.out))
  clear oo gg bb
  have KP4 : Hid (Blk W4 P 32 #[v, .int .i64 l0, .int .i64 l1, .int .i64 l2, .int .i64 l3, .int .i64 (wq o0).c, .int .i64 (wq o0).s, .int .i64 (wq o0).k, .int .i64 (wq o0).i, .int .i64 (wq o0).m, .string (wq o0).d, .int .i64 (wq o1).c, .int .i64 (wq o1).s, .int .i64 (wq o1).k, .int .i64 (wq o1).i, .int .i64 (wq o1).m, .string (wq o1).d, .int .i64 xc, .int .i64 sq, .int .i64 xk, .int .i64 xi, .int .i64 xm, .string xd, .int .i64 (wq o3).c, .int .i64 (wq o3).s, .int .i64 (wq o3).k, .int .i64 (wq o3).i, .int .i64 (wq o3).m, .string (wq o3).d]) := KP2.out.frm E4.out (fun e => HNP.out e)
  try simp only [Act.put, List.setIfInBounds_toArray, List.set_cons_zero, List.set_cons_succ]
  refine rz_take [19, 20] (i := 18) (v := ?_) rfl (by kernel_rfl) (by kernel_rfl) (by kernel_rfl) (by kernel_rfl) (by kernel_rfl) (by kernel_rfl) (fun _ _ _ h => h) (by rfl) ?_ ?_
  rotate_left
  · intro W hW; have hW0 := Frm.tr E4.out hW; clear hW; go_simp <;> with_reducible rfl
  try simp only [Act.put, List.setIfInBounds_toArray, List.set_cons_zero, List.set_cons_succ]
  refine rz_take [20] (i := 19) (v := ?_) rfl (by kernel_rfl) (by kernel_rfl) (by kernel_rfl) (by kernel_rfl) (by kernel_rfl) (by kernel_rfl) (fun _ _ _ h => h) (by rfl) ?_ ?_
  rotate_left
  · intro W hW; have hW0 := Frm.tr E4.out hW; clear hW; go_simp <;> with_reducible rfl
  try simp only [Act.put, List.setIfInBounds_toArray, List.set_cons_zero, List.set_cons_succ]
  refine rz_last (i := 20) rfl (by kernel_rfl) (by rfl) (by rfl) (fun K hK => ?_)
  have q1 := KP4.out.frozen 0
  have r1 := KP4.out.cell 0
  simp at r1
  go_simp
  refine hK _ _ ?_; clear hK K q1 r1
  obtain ⟨W5, hW5⟩ : ∃ W5, W5 = W4.setCell ⟨P, 0, none⟩ (.slice A3 (L.length + 1) cap3) := ⟨_, rfl⟩
  have KP5 : Hid (Blk W5 P 32 #[.slice A3 (L.length + 1) cap3, .int .i64 l0, .int .i64 l1, .int .i64 l2, .int .i64 l3, .int .i64 (wq o0).c, .int .i64 (wq o0).s, .int .i64 (wq o0).k, .int .i64 (wq o0).i, .int .i64 (wq o0).m, .string (wq o0).d, .int .i64 (wq o1).c, .int .i64 (wq o1).s, .int .i64 (wq o1).k, .int .i64 (wq o1).i, .int .i64 (wq o1).m, .string (wq o1).d, .int .i64 xc, .int .i64 sq, .int .i64 xk, .int .i64 xi, .int .i64 xm, .string xd, .int .i64 (wq o3).c, .int .i64 (wq o3).s, .int .i64 (wq o3).k, .int .i64 (wq o3).i, .int .i64 (wq o3).m, .string (wq o3).d]) := by (show Blk _ _ _ _); rw [hW5]; exact KP4.out.set 0 _
  have F5 : Hid (Frm (fun k => k = P) W4 W5) := by (show Frm _ _ _); rw [hW5]; exact Frm.of_set _ _ _ rfl
  try rw [← hW5]
  clear hW5
  try simp only [Act.put, List.setIfInBounds_toArray, List.set_cons_zero, List.set_cons_succ]
  refine rz_done (by kernel_rfl) ?_ _
  clear z0 z1 z2 z3 y0 y17 y18 y19 y20 y21 y22
  have k17 := KP5.out.cell 17
  have g17 := KP5.out.frozen 17
  have k18 := KP5.out.cell 18
  have g18 := KP5.out.frozen 18
  have k19 := KP5.out.cell 19
  have g19 := KP5.out.frozen 19
  have k20 := KP5.out.cell 20
  have g20 := KP5.out.frozen 20
  have k21 := KP5.out.cell 21
  have g21 := KP5.out.frozen 21
  have k22 := KP5.out.cell 22
  have g22 := KP5.out.frozen 22
  simp at k17 k18 k19 k20 k21 k22
  go_wp2_with fail
  try go_ret
  obtain ⟨W6, hW6⟩ : ∃ W6, W6 = ((((((W5.setCell ⟨P, 17, none⟩ (.int .i64 0)).setCell ⟨P, 18, none⟩ (.int .i64 0)).setCell ⟨P, 19, none⟩ (.int .i64 0)).setCell ⟨P, 20, none⟩ (.int .i64 0)).setCell ⟨P, 21, none⟩ (.int .i64 0)).setCell ⟨P, 22, none⟩ (.string ⟨#[]⟩)) := ⟨_, rfl⟩
  have KP6 : Blk W6 P 32 #[.slice A3 (L.length + 1) cap3, .int .i64 l0, .int .i64 l1, .int .i64 l2, .int .i64 l3, .int .i64 (wq o0).c, .int .i64 (wq o0).s, .int .i64 (wq o0).k, .int .i64 (wq o0).i, .int .i64 (wq o0).m, .string (wq o0).d, .int .i64 (wq o1).c, .int .i64 (wq o1).s, .int .i64 (wq o1).k, .int .i64 (wq o1).i, .int .i64 (wq o1).m, .string (wq o1).d, .int .i64 0, .int .i64 0, .int .i64 0, .int .i64 0, .int .i64 0, .string ⟨#[]⟩, .int .i64 (wq o3).c, .int .i64 (wq o3).s, .int .i64 (wq o3).k, .int .i64 (wq o3).i, .int .i64 (wq o3).m, .string (wq o3).d] := by rw [hW6]; exact ((((((KP5.out.set 17 (.int .i64 0)).set 18 (.int .i64 0)).set 19 (.int .i64 0)).set 20 (.int .i64 0)).set 21 (.int .i64 0)).set 22 (.string ⟨#[]⟩))
  have F6 : Frm (fun k => k = P) W4 W6 := by rw [hW6]; exact Frm.tr (Frm.tr (Frm.tr (Frm.tr (Frm.tr (Frm.tr (F5.out) (Frm.of_set _ _ _ rfl)) (Frm.of_set _ _ _ rfl)) (Frm.of_set _ _ _ rfl)) (Frm.of_set _ _ _ rfl)) (Frm.of_set _ _ _ rfl)) (Frm.of_set _ _ _ rfl)
  try rw [← hW6]
  clear hW6
  have FA2 : Frm (Psel P G) W2 W6 := Frm.tr (E4.out.mono (fun k hk => Or.inr hk)) (F6.mono (fun k hk => Or.inl hk))
  have FA : Frm (Psel P G) w W6 := Frm.tr (Frm.of_below X2.out _) FA2
  have hkeep : ∀ k cs, Blk W2 k 3 cs → Blk W6 k 3 cs := fun k cs h => h.frm FA2 (fun hh => by
    rcases hh with hh | hh
    · subst hh; exact Blk.apart h KP2.out (by decide) rfl
    · exact hnG k _ cs (by decide) h hh)
  have O5 : W6.ownsRow base 50 14 (.slice A3 (L.length + 1) cap3) (L ++ [At.mk (Ac.mk 2 sq true (Rqv.mk xc sq xk xi xm xd) (Rpv.mk rc rv rd rl) at_) A2 c3]).length (flatA (L ++ [At.mk (Ac.mk 2 sq true (Rqv.mk xc sq xk xi xm xd) (Rpv.mk rc rv rd rl) at_) A2 c3])) := by
    rw [flatA_append, List.length_append]
    have h7 := own_frmN O4.out F6 (fun k hk e => own_blkne O4.out KP4.out (by decide) k hk e)
    have h8 : flatA [At.mk (Ac.mk 2 sq true (Rqv.mk xc sq xk xi xm xd) (Rpv.mk rc rv rd rl) at_) A2 c3] = [.int .i64 2, .int .i64 sq, .bool true, .int .i64 xc, .int .i64 sq, .int .i64 xk, .int .i64 xi, .int .i64 xm, .string xd, .int .i64 rc, .int .i64 rv, .string rd, .slice A2 N c3, .int .i64 at_] := by simp [flatA, acRow, HNN.out]
    rw [h8]
    exact h7
  refine hD.out _ _ ⟨rfl, _, ⟨HBP.out, .slice A3 (L.length + 1) cap3, l0, l1, l2, l3, o0, o1, none, o3, L ++ [At.mk (Ac.mk 2 sq true (Rqv.mk xc sq xk xi xm xd) (Rpv.mk rc rv rd rl) at_) A2 c3], KP6, HLS.out, ?_, O5, rfl, ?_, ?_⟩, FA, ?_⟩
  · show st.wait.set 2 none = _
    rw [HWS.out]; rfl
  · show _ = st.acts ++ [(⟨2, sq, true, (st.w 2).getD ⟨0, 0, 0, 0, 0, ⟨#[]⟩⟩, ⟨rc, rv, rd, rl⟩, at_⟩ : Ac)]
    rw [HOS.out, List.map_append, HL.out]; rfl
  · intro t ht
    rw [List.mem_append, List.mem_singleton] at ht
    rcases ht with ht | rfl
    · exact ((HIN.out t ht).stay X2.out).of (fun k cs h => hkeep k cs h)
    · exact IN2.out.of (fun k cs h => hkeep k cs h)
  · rcases BB4.out with h5 | h5
    · exact .inl (h5.trans HG.out)
    · exact .inr ⟨_, h5, Nat.le_trans X2.out.size (Nat.le_trans Xe.out.size X3.out.size)⟩

set_option maxRecDepth 8000 in
set_option maxHeartbeats 8000000 in
theorem rans_none3 (base P : Nat) (G : Option Nat) (st : Ps) (sq rc rv : Int) (rd : ByteArray) (rA : Option Addr) (rcap : Nat) (rl : List Int) (at_ : Int) (w : World) (H : RAt w base P G st) (h0 : ¬ at_ < 0) (h1 : ¬ 1073741824 < at_) (hs : st.w 3 = none) :
    Calls Try.prog 14 #[.pointer (some ⟨P, 0, none⟩), .int .i64 3, .int .i64 sq, .agg #[.int .i64 rc, .int .i64 rv, .string rd, .slice rA rl.length rcap], .int .i64 at_] w fun e w' => e = .returned (.int .i64 4) ∧ Ext w w' := by
  refine hide_post fun D hD => ?_
  generalize hN : rl.length = N at *
  obtain ⟨hbP, v, l0, l1, l2, l3, o0, o1, o2, o3, L, kP, hl, hw, hown, hG, hL, hin⟩ := H
  have ho : o3 = none := by unfold Ps.w at hs; rw [hw] at hs; exact hs
  subst ho
  obtain ⟨w0, hw0⟩ : ∃ w0, w0 = w.alloc (.cells #[.int .i64 rc, .int .i64 rv, .string rd, .slice rA N rcap] 35) := ⟨_, rfl⟩
  have hb0 : Ext w w0 := by rw [hw0]; exact Ext.alloc _ _
  have HW := Lib.hid hw0
  have X0 : Hid (Ext w w0) := hb0
  have XA : Hid (Ext w (w.alloc (.cells #[.int .i64 rc, .int .i64 rv, .string rd, .slice rA N rcap] 35))) := Ext.alloc _ _
  have a24 : ∀ o, (w.alloc o).cell? ⟨P, 24, none⟩ = some (.int .i64 0) := fun o => (kP.stay (Ext.alloc w o)).cell 24
  have hplt := kP.lt
  clear hb0 hw0 kP hl hw hown hG hL hin hs hbP hN
  go_enter Try.func14, Try.ntmps14
  go_wp2_with fail
  try go_ret
  exact hD.out _ _ ⟨rfl, XA.out⟩

set_option maxRecDepth 8000 in
set_option maxHeartbeats 8000000 in
theorem rans_other3 (base P : Nat) (G : Option Nat) (st : Ps) (sq rc rv : Int) (rd : ByteArray) (rA : Option Addr) (rcap : Nat) (rl : List Int) (at_ : Int) (xc xs xk xi xm : Int) (xd : ByteArray) (w : World) (H : RAt w base P G st) (h0 : ¬ at_ < 0) (h1 : ¬ 1073741824 < at_) (hs : st.w 3 = some ⟨xc, xs, xk, xi, xm, xd⟩) (hx1 : 1 ≤ xs) (hq : ¬ xs = sq) :
    Calls Try.prog 14 #[.pointer (some ⟨P, 0, none⟩), .int .i64 3, .int .i64 sq, .agg #[.int .i64 rc, .int .i64 rv, .string rd, .slice rA rl.length rcap], .int .i64 at_] w fun e w' => e = .returned (.int .i64 4) ∧ Ext w w' := by
  refine hide_post fun D hD => ?_
  generalize hN : rl.length = N at *
  obtain ⟨hbP, v, l0, l1, l2, l3, o0, o1, o2, o3, L, kP, hl, hw, hown, hG, hL, hin⟩ := H
  have ho : o3 = some ⟨xc, xs, xk, xi, xm, xd⟩ := by unfold Ps.w at hs; rw [hw] at hs; exact hs
  subst ho
  have hx0 : ¬ xs = 0 := by omega
  have hq1 : (xs == sq) = false := by simp [hq]
  have hx01 : (xs == 0) = false := by simp [hx0]
  obtain ⟨w0, hw0⟩ : ∃ w0, w0 = w.alloc (.cells #[.int .i64 rc, .int .i64 rv, .string rd, .slice rA N rcap] 35) := ⟨_, rfl⟩
  have hb0 : Ext w w0 := by rw [hw0]; exact Ext.alloc _ _
  have HW := Lib.hid hw0
  have X0 : Hid (Ext w w0) := hb0
  have XA : Hid (Ext w (w.alloc (.cells #[.int .i64 rc, .int .i64 rv, .string rd, .slice rA N rcap] 35))) := Ext.alloc _ _
  have a24 : ∀ o, (w.alloc o).cell? ⟨P, 24, none⟩ = some (.int .i64 xs) := fun o => (kP.stay (Ext.alloc w o)).cell 24
  have hplt := kP.lt
  clear hb0 hw0 kP hl hw hown hG hL hin hs hbP hN hx1
  go_enter Try.func14, Try.ntmps14
  go_wp2_with fail
  try go_ret
  exact hD.out _ _ ⟨rfl, XA.out⟩

set_option maxRecDepth 8000 in
set_option maxHeartbeats 8000000 in
theorem rans_ok3 (base P : Nat) (G : Option Nat) (st : Ps) (sq rc rv : Int) (rd : ByteArray) (rA : Option Addr) (rcap : Nat) (rl : List Int) (at_ : Int) (xc xk xi xm : Int) (xd : ByteArray) (w : World) (H : RAt w base P G st) (h0 : ¬ at_ < 0) (h1 : ¬ 1073741824 < at_) (hs : st.w 3 = some ⟨xc, sq, xk, xi, xm, xd⟩) (hx1 : 1 ≤ sq) (hn : st.acts.length ≤ 1000000) (hrl : rl.length ≤ 1000000) (hr : Sl i64 w rA rl) :
    Calls Try.prog 14 #[.pointer (some ⟨P, 0, none⟩), .int .i64 3, .int .i64 sq, .agg #[.int .i64 rc, .int .i64 rv, .string rd, .slice rA rl.length rcap], .int .i64 at_] w fun e w' => e = .returned (.int .i64 0) ∧ ROut w w' base P G (ansS st 3 sq ⟨rc, rv, rd, rl⟩ at_) := by
  refine hide_post fun D hD => ?_
  generalize hN : rl.length = N at *
  have hlt := H.lt
  obtain ⟨hbP, v, l0, l1, l2, l3, o0, o1, o2, o3, L, kP, hl, hw, hown, hG, hL, hin⟩ := H
  have ho : o3 = some ⟨xc, sq, xk, xi, xm, xd⟩ := by unfold Ps.w at hs; rw [hw] at hs; exact hs
  subst ho
  have hx0 : ¬ sq = 0 := by omega
  obtain ⟨w0, hw0⟩ : ∃ w0, w0 = w.alloc (.cells #[.int .i64 rc, .int .i64 rv, .string rd, .slice rA N rcap] 35) := ⟨_, rfl⟩
  have hb0 : Ext w w0 := by rw [hw0]; exact Ext.alloc _ _
  have HW := Lib.hid hw0
  have X0 : Hid (Ext w w0) := hb0
  have XA : Hid (Ext w (w.alloc (.cells #[.int .i64 rc, .int .i64 rv, .string rd, .slice rA N rcap] 35))) := Ext.alloc _ _
  have KR : Hid (Blk w0 w.heap.size 35 #[.int .i64 rc, .int .i64 rv, .string rd, .slice rA N rcap]) := by show Blk _ _ _ _; rw [hw0]; exact Blk.new _ _ _
  have hLn : L.length ≤ 1000000000 := by have h5 := congrArg List.length hL; rw [List.length_map] at h5; omega
  have HLN : Hid (L.length ≤ 1000000000) := hLn
  have HNN := Lib.hid hN
  have HKPw := Lib.hid kP
  have HOWNw := Lib.hid hown
  have HG : Hid (v.ownBlock = G) := hG
  have HL := Lib.hid hL
  have HIN := Lib.hid hin
  have HBP : Hid (base ≤ P) := hbP
  have HBS : Hid (base ≤ w.heap.size) := Nat.le_trans hbP (Nat.le_of_lt hlt)
  have HLS := Lib.hid hl
  have HWS := Lib.hid hw
  have HOS : Hid (st.w 3 = some ⟨xc, sq, xk, xi, xm, xd⟩) := hs
  have HNP : Hid (¬ some P = G) := fun e => by
    obtain ⟨cs, hc⟩ := own_blk hown (hG.trans e.symm)
    exact Blk.apart kP hc (by decide) rfl
  have HSR : Hid (∀ V, Ext w V → Sl i64 V rA rl) := fun V h => hr.stay h
  have HRL : Hid (rl.length ≤ 1000000) := by (show _ ≤ _); omega
  obtain ⟨g, hg⟩ : ∃ g, g = w.heap.size := ⟨_, rfl⟩
  have HGG := Lib.hid hg
  have hgP : ¬ g = P := by omega
  have a24 : ∀ o, (w.alloc o).cell? ⟨P, 24, none⟩ = some (.int .i64 sq) := fun o => (kP.stay (Ext.alloc w o)).cell 24
  have hplt := hlt
  have r3 : ∀ o, ((w.alloc (.cells #[.int .i64 rc, .int .i64 rv, .string rd, .slice rA N rcap] 35)).alloc o).cell? ⟨w.heap.size, 3, none⟩ = some (.slice rA N rcap) := fun o => ((Blk.new w _ _).stay (Ext.alloc _ o)).cell 3
  have hz0 : w0.heap.size = w.heap.size + 1 := by rw [hw0]; simp
  have hm : Hid ((w0.alloc (.cells #[] 3)).ownsRow (w.heap.size + 1) 3 1 (.slice (some ⟨w.heap.size + 1, 0, none⟩) 0 0) 0 []) := by
    have h7 := World.ownsRow_made (base := w0.heap.size) (e := 3) (size := 1) w0 #[] 0 (Nat.le_refl _) (Nat.zero_le _) rfl
    rw [hz0] at h7
    exact h7
  have HZ0 := Lib.hid hz0
  clear hb0 hw0 kP hl hw hown hG hL hin hs hlt hbP hLn hn hrl hr hN hg hx1 hz0
  go_enter Try.func14, Try.ntmps14
  go_upto_region 6 with (at_builtin; rw [← HW.out]; refine wpList_append_list rfl _ _ 33 rfl (w.heap.size + 1) 3 (.int .i64 0) 8 Try.underlying33 info_int rfl (by omega) (.slice (some ⟨w.heap.size + 1, 0, none⟩) 0 0) 0 [] rfl hm.out i64 rA rl N rcap HNN.out.symm rfl (HSR.out _ (Ext.trans X0.out (Ext.alloc _ _))) (fun _ => rfl) (by have := HRL.out; omega) (by have := HZ0.out; (try simp) <;> omega) ?_; intro v' w1 h1' h2' h3'; rw [Nat.zero_add, HNN.out] at h1'; obtain ⟨A2, c2, hv2⟩ := own_shape h1'; subst hv2; have O1 := Lib.hid h1'; have G1 := Lib.hid h2'; have KR1 : Hid (Blk w1 w.heap.size 35 #[.int .i64 rc, .int .i64 rv, .string rd, .slice rA N rcap]) := (KR.out.alloc _).grown h2' (fun e => by have e2 := Option.some.inj (show some w.heap.size = some (w.heap.size + 1) from e); omega); have X1 : Hid (Ext w0 w1) := ((Below.refl _ _).alloc (Nat.le_refl _) _).grown h2' (by simp) (fun k hk => by have e2 := Option.some.inj (show some (w.heap.size + 1) = some k from hk); have := HZ0.out; omega); have q3 := KR1.out.cell 3; have f3 := KR1.out.frozen 3; simp at q3; clear h1' h2' h3')
  rw [← HGG.out]
  have IN1 : Hid (∃ c3, In w1 A2 c3 rl ∧ c3 = c2) := by
    have h7 := O1.out
    rw [List.nil_append, ← HNN.out] at h7
    obtain ⟨A5, c5, e5, h8⟩ := In.own h7
    injection e5 with e6 e7 e8
    subst e6 e8
    exact ⟨_, h8, rfl⟩
  obtain ⟨c3, in1, hc3⟩ := IN1.out
  subst hc3
  obtain ⟨W2, hW2⟩ : ∃ W2, W2 = w1.setCell ⟨g, 3, none⟩ (.slice A2 N c3) := ⟨_, rfl⟩
  have HK1 : Hid (Blk w1 g 35 #[.int .i64 rc, .int .i64 rv, .string rd, .slice rA N rcap]) := by (show Blk _ _ _ _); rw [HGG.out]; exact KR1.out
  have KR2 : Hid (Blk W2 g 35 #[.int .i64 rc, .int .i64 rv, .string rd, .slice A2 N c3]) := by (show Blk _ _ _ _); rw [hW2]; exact HK1.out.set 3 _
  have FG : Hid (Frm (fun k => k = g) w1 W2) := by (show Frm _ _ _); rw [hW2]; exact Frm.of_set _ _ _ rfl
  have X2 : Hid (Ext w W2) := Frm.step (Ext.trans X0.out X1.out) FG.out (Ext.trans X0.out X1.out).size (by rintro k rfl; rw [HGG.out]; exact Nat.le_refl _)
  have IN2 : Hid (In W2 A2 c3 rl) := in1.of (fun k cs h => h.frm FG.out (Blk.apart h HK1.out (by decide)))
  have KP2 := Lib.hid (HKPw.out.stay X2.out)
  have HOWN2 := Lib.hid (own_frmN HOWNw.out (Frm.of_below X2.out (fun _ => False)) (fun _ _ h => h))
  try rw [← hW2]
  clear hW2 q3 f3 a24 r3 in1 IN1
  have hnG : ∀ k t cs, t ≠ 50 → Blk W2 k t cs → ¬ some k = G := fun k t cs ht h e => by
    obtain ⟨cs', hc⟩ := own_blk HOWN2.out (HG.out.trans e.symm)
    exact Blk.apart h hc ht rfl
  have z0 : ∀ V, Frm (fun k => some k = G) W2 V → V.cell? ⟨g, 0, none⟩ = some (.int .i64 rc) := fun V h => ((KR2.out.frm h (hnG _ _ _ (by decide) KR2.out))).cell 0
  have z1 : ∀ V, Frm (fun k => some k = G) W2 V → V.cell? ⟨g, 1, none⟩ = some (.int .i64 rv) := fun V h => ((KR2.out.frm h (hnG _ _ _ (by decide) KR2.out))).cell 1
  have z2 : ∀ V, Frm (fun k => some k = G) W2 V → V.cell? ⟨g, 2, none⟩ = some (.string rd) := fun V h => ((KR2.out.frm h (hnG _ _ _ (by decide) KR2.out))).cell 2
  have z3 : ∀ V, Frm (fun k => some k = G) W2 V → V.cell? ⟨g, 3, none⟩ = some (.slice A2 N c3) := fun V h => ((KR2.out.frm h (hnG _ _ _ (by decide) KR2.out))).cell 3
  have y0 : ∀ V, Frm (fun k => some k = G) W2 V → V.cell? ⟨P, 0, none⟩ = some (v) := fun V h => ((KP2.out.frm h HNP.out)).cell 0
  have y23 : ∀ V, Frm (fun k => some k = G) W2 V → V.cell? ⟨P, 23, none⟩ = some (.int .i64 xc) := fun V h => ((KP2.out.frm h HNP.out)).cell 23
  have y24 : ∀ V, Frm (fun k => some k = G) W2 V → V.cell? ⟨P, 24, none⟩ = some (.int .i64 sq) := fun V h => ((KP2.out.frm h HNP.out)).cell 24
  have y25 : ∀ V, Frm (fun k => some k = G) W2 V → V.cell? ⟨P, 25, none⟩ = some (.int .i64 xk) := fun V h => ((KP2.out.frm h HNP.out)).cell 25
  have y26 : ∀ V, Frm (fun k => some k = G) W2 V → V.cell? ⟨P, 26, none⟩ = some (.int .i64 xi) := fun V h => ((KP2.out.frm h HNP.out)).cell 26
  have y27 : ∀ V, Frm (fun k => some k = G) W2 V → V.cell? ⟨P, 27, none⟩ = some (.int .i64 xm) := fun V h => ((KP2.out.frm h HNP.out)).cell 27
  have y28 : ∀ V, Frm (fun k => some k = G) W2 V → V.cell? ⟨P, 28, none⟩ = some (.string xd) := fun V h => ((KP2.out.frm h HNP.out)).cell 28
  have Xe : Hid (Ext W2 W2.drew) := (Ext.refl _).drewR
  have E0g : Hid (Frm (fun k => some k = G) W2 W2.drew) := Frm.of_below Xe.out _
  refine rz_begin (fun k => some k = G) [20] (by kernel_rfl) ?_
  refine rz_take [18, 19, 20] (i := 0) (v := ?_) rfl (by kernel_rfl) (by kernel_rfl) (by kernel_rfl) (by kernel_rfl) (by kernel_rfl) (by kernel_rfl) (fun _ _ _ h => h) (by rfl) ?_ ?_
  rotate_left
  · intro W hW; have hW0 := Frm.tr E0g.out hW; clear hW; go_simp <;> with_reducible rfl
  try simp only [Act.put, List.setIfInBounds_toArray, List.set_cons_zero, List.set_cons_succ]
  refine rz_take [2, 3, 4, 17, 18, 19, 20] (i := 1) (v := ?_) rfl (by kernel_rfl) (by kernel_rfl) (by kernel_rfl) (by kernel_rfl) (by kernel_rfl) (by kernel_rfl) (fun _ _ _ h => h) (by rfl) ?_ ?_
  rotate_left
  · intro W hW; have hW0 := Frm.tr E0g.out hW; clear hW; go_simp <;> with_reducible rfl
  try simp only [Act.put, List.setIfInBounds_toArray, List.set_cons_zero, List.set_cons_succ]
  refine rz_take [3, 4, 17, 18, 19, 20] (i := 2) (v := ?_) rfl (by kernel_rfl) (by kernel_rfl) (by kernel_rfl) (by kernel_rfl) (by kernel_rfl) (by kernel_rfl) (fun _ _ _ h => h) (by rfl) ?_ ?_
  rotate_left
  · intro W hW; have hW0 := Frm.tr E0g.out hW; clear hW; go_simp <;> with_reducible rfl
  try simp only [Act.put, List.setIfInBounds_toArray, List.set_cons_zero, List.set_cons_succ]
  refine rz_take [4, 17, 18, 19, 20] (i := 3) (v := ?_) rfl (by kernel_rfl) (by kernel_rfl) (by kernel_rfl) (by kernel_rfl) (by kernel_rfl) (by kernel_rfl) (fun _ _ _ h => h) (by rfl) ?_ ?_
  rotate_left
  · intro W hW; have hW0 := Frm.tr E0g.out hW; clear hW; go_simp <;> with_reducible rfl
  try simp only [Act.put, List.setIfInBounds_toArray, List.set_cons_zero, List.set_cons_succ]
  refine rz_take [17, 18, 19, 20] (i := 4) (v := ?_) rfl (by kernel_rfl) (by kernel_rfl) (by kernel_rfl) (by kernel_rfl) (by kernel_rfl) (by kernel_rfl) (fun _ _ _ h => h) (by rfl) ?_ ?_
  rotate_left
  · intro W hW; have hW0 := Frm.tr E0g.out hW; clear hW; go_simp <;> with_reducible rfl
  try simp only [Act.put, List.setIfInBounds_toArray, List.set_cons_zero, List.set_cons_succ]
  refine rz_take [15, 16, 17, 18, 19, 20] (i := 5) (v := ?_) rfl (by kernel_rfl) (by kernel_rfl) (by kernel_rfl) (by kernel_rfl) (by kernel_rfl) (by kernel_rfl) (fun _ _ _ h => h) (by rfl) ?_ ?_
  rotate_left
  · intro W hW; have hW0 := Frm.tr E0g.out hW; clear hW; go_simp <;> with_reducible rfl
  try simp only [Act.put, List.setIfInBounds_toArray, List.set_cons_zero, List.set_cons_succ]
  refine rz_take [15, 16, 17, 18, 19, 20] (i := 6) (v := ?_) rfl (by kernel_rfl) (by kernel_rfl) (by kernel_rfl) (by kernel_rfl) (by kernel_rfl) (by kernel_rfl) (fun _ _ _ h => h) (by rfl) ?_ ?_
  rotate_left
  · intro W hW; have hW0 := Frm.tr E0g.out hW; clear hW; go_simp <;> with_reducible rfl
  try simp only [Act.put, List.setIfInBounds_toArray, List.set_cons_zero, List.set_cons_succ]
  refine rz_take [9, 10, 11, 12, 15, 16, 17, 18, 19, 20] (i := 7) (v := ?_) rfl (by kernel_rfl) (by kernel_rfl) (by kernel_rfl) (by kernel_rfl) (by kernel_rfl) (by kernel_rfl) (fun _ _ _ h => h) (by rfl) ?_ ?_
  rotate_left
  · intro W hW; have hW0 := Frm.tr E0g.out hW; clear hW; go_simp <;> with_reducible rfl
  try simp only [Act.put, List.setIfInBounds_toArray, List.set_cons_zero, List.set_cons_succ]
  refine rz_take [11, 12, 15, 16, 17, 18, 19, 20] (i := 8) (v := ?_) rfl (by kernel_rfl) (by kernel_rfl) (by kernel_rfl) (by kernel_rfl) (by kernel_rfl) (by kernel_rfl) (fun _ _ _ h => h) (by rfl) ?_ ?_
  rotate_left
  · intro W hW; have hW0 := Frm.tr E0g.out hW; clear hW; go_simp <;> with_reducible rfl
  try simp only [Act.put, List.setIfInBounds_toArray, List.set_cons_zero, List.set_cons_succ]
  refine rz_take [10, 11, 12, 15, 16, 17, 18, 19, 20] (i := 9) (v := ?_) rfl (by kernel_rfl) (by kernel_rfl) (by kernel_rfl) (by kernel_rfl) (by kernel_rfl) (by kernel_rfl) (fun _ _ _ h => h) (by rfl) ?_ ?_
  rotate_left
  · intro W hW; have hW0 := Frm.tr E0g.out hW; clear hW; go_simp <;> with_reducible rfl
  try simp only [Act.put, List.setIfInBounds_toArray, List.set_cons_zero, List.set_cons_succ]
  refine rz_take [11, 12, 15, 16, 17, 18, 19, 20] (i := 10) (v := ?_) rfl (by kernel_rfl) (by kernel_rfl) (by kernel_rfl) (by kernel_rfl) (by kernel_rfl) (by kernel_rfl) (fun _ _ _ h => h) (by rfl) ?_ ?_
  rotate_left
  · intro W hW; have hW0 := Frm.tr E0g.out hW; clear hW; go_simp <;> with_reducible rfl
  try simp only [Act.put, List.setIfInBounds_toArray, List.set_cons_zero, List.set_cons_succ]
  refine rz_take [12, 15, 16, 17, 18, 19, 20] (i := 11) (v := ?_) rfl (by kernel_rfl) (by kernel_rfl) (by kernel_rfl) (by kernel_rfl) (by kernel_rfl) (by kernel_rfl) (fun _ _ _ h => h) (by rfl) ?_ ?_
  rotate_left
  · intro W hW; have hW0 := Frm.tr E0g.out hW; clear hW; go_simp <;> with_reducible rfl
  try simp only [Act.put, List.setIfInBounds_toArray, List.set_cons_zero, List.set_cons_succ]
  refine rz_take [15, 16, 17, 18, 19, 20] (i := 12) (v := ?_) rfl (by kernel_rfl) (by kernel_rfl) (by kernel_rfl) (by kernel_rfl) (by kernel_rfl) (by kernel_rfl) (fun _ _ _ h => h) (by rfl) ?_ ?_
  rotate_left
  · intro W hW; have hW0 := Frm.tr E0g.out hW; clear hW; go_simp <;> with_reducible rfl
  try simp only [Act.put, List.setIfInBounds_toArray, List.set_cons_zero, List.set_cons_succ]
  refine rz_take [15, 16, 17, 18, 19, 20] (i := 13) (v := ?_) rfl (by kernel_rfl) (by kernel_rfl) (by kernel_rfl) (by kernel_rfl) (by kernel_rfl) (by kernel_rfl) (fun _ _ _ h => h) (by rfl) ?_ ?_
  rotate_left
  · intro W hW; have hW0 := Frm.tr E0g.out hW; clear hW; go_simp <;> with_reducible rfl
  try simp only [Act.put, List.setIfInBounds_toArray, List.set_cons_zero, List.set_cons_succ]
  refine rz_take [15, 16, 17, 18, 19, 20] (i := 14) (v := ?_) rfl (by kernel_rfl) (by kernel_rfl) (by kernel_rfl) (by kernel_rfl) (by kernel_rfl) (by kernel_rfl) (fun _ _ _ h => h) (by rfl) ?_ ?_
  rotate_left
  · intro W hW; have hW0 := Frm.tr E0g.out hW; clear hW; go_simp <;> with_reducible rfl
  try simp only [Act.put, List.setIfInBounds_toArray, List.set_cons_zero, List.set_cons_succ]
  refine rz_take [16, 17, 18, 19, 20] (i := 15) (v := ?_) rfl (by kernel_rfl) (by kernel_rfl) (by kernel_rfl) (by kernel_rfl) (by kernel_rfl) (by kernel_rfl) (fun _ _ _ h => h) (by rfl) ?_ ?_
  rotate_left
  · intro W hW; have hW0 := Frm.tr E0g.out hW; clear hW; go_simp <;> with_reducible rfl
  try simp only [Act.put, List.setIfInBounds_toArray, List.set_cons_zero, List.set_cons_succ]
  refine rz_call (i := 16) rfl (by kernel_rfl) (by rfl) (fun K hK => ?_)
  go_simp
  refine hK _ _ (Frm.of_alloc _ _ _) ?_; clear hK K
  obtain ⟨W3, hW3⟩ : ∃ W3, W3 = (W2.alloc (.cells #[.int .i64 3, .int .i64 sq, .bool true, .int .i64 xc, .int .i64 sq, .int .i64 xk, .int .i64 xi, .int .i64 xm, .string xd, .int .i64 rc, .int .i64 rv, .string rd, .slice A2 N c3, .int .i64 at_] 50)).drew := ⟨_, rfl⟩
  have KR3 : Hid (Blk W3 W2.drew.heap.size 50 #[.int .i64 3, .int .i64 sq, .bool true, .int .i64 xc, .int .i64 sq, .int .i64 xk, .int .i64 xi, .int .i64 xm, .string xd, .int .i64 rc, .int .i64 rv, .string rd, .slice A2 N c3, .int .i64 at_]) := by (show Blk _ _ _ _); rw [hW3]; exact Blk.new W2.drew _ _
  have X3 : Hid (Ext W2.drew W3) := by (show Ext _ _); rw [hW3]; exact Ext.alloc W2.drew _
  have E3 : Hid (Frm (fun k => some k = G) W2 W3) := Frm.tr E0g.out (Frm.of_below X3.out _)
  try rw [← hW3]
  clear hW3
  try simp only [Act.put, List.setIfInBounds_toArray, List.set_cons_zero, List.set_cons_succ]
  refine rz_call (i := 17) rfl (by kernel_rfl) (by rfl) (fun K hK => ?_)
  refine wp_append_wide (.tmp 55) (.tmp 67) 26 rfl base 50 _ 14 144 Try.underlying26 info_act rfl (by decide) (by decide) v L.length (flatA L) rfl (own_frmN HOWN2.out (Frm.of_below (Ext.trans Xe.out X3.out) (fun _ => False)) (fun _ _ h => h)) W2.drew.heap.size [.int .i64 3, .int .i64 sq, .bool true, .int .i64 xc, .int .i64 sq, .int .i64 xk, .int .i64 xi, .int .i64 xm, .string xd, .int .i64 rc, .int .i64 rv, .string rd, .slice A2 N c3, .int .i64 at_] rfl rfl KR3.out (by intro y hy; simp at hy; rcases hy with rfl | rfl | rfl | rfl | rfl | rfl | rfl | rfl | rfl | rfl | rfl | rfl | rfl | rfl <;> rfl) HLN.out (Nat.le_trans HBS.out (Nat.le_trans X2.out.size (Nat.le_trans Xe.out.size X3.out.size))) ?_
  intro v2 W4 oo gg bb
  obtain ⟨A3, cap3, hv3⟩ := own_shape oo
  subst hv3
  refine hK _ _ (Frm.of_grown gg (fun k hk => hk.trans HG.out)) ?_; clear hK K
  have O4 := Lib.hid oo
  have BB4 := Lib.hid bb
  have E4 : Hid (Frm (fun k => some k = G) W2 W4) := Frm.tr E3.out (Frm.of_grown gg (fun k hk => hk.trans HG.out))
  clear oo gg bb
  have KP4 : Hid (Blk W4 P 32 #[v, .int .i64 l0, .int .i64 l1, .int .i64 l2, .int .i64 l3, .int .i64 (wq o0).c, .int .i64 (wq o0).s, .int .i64 (wq o0).k, .int .i64 (wq o0).i, .int .i64 (wq o0).m, .string (wq o0).d, .int .i64 (wq o1).c, .int .i64 (wq o1).s, .int .i64 (wq o1).k, .int .i64 (wq o1).i, .int .i64 (wq o1).m, .string (wq o1).d, .int .i64 (wq o2).c, .int .i64 (wq o2).s, .int .i64 (wq o2).k, .int .i64 (wq o2).i, .int .i64 (wq o2).m, .string (wq o2).d, .int .i64 xc, .int .i64 sq, .int .i64 xk, .int .i64 xi, .int .i64 xm, .string xd]) := KP2.out.frm E4.out (fun e => HNP.out e)
  try simp only [Act.put, List.setIfInBounds_toArray, List.set_cons_zero, List.set_cons_succ]
  refine rz_take [19, 20] (i := 18) (v := ?_) rfl (by kernel_rfl) (by kernel_rfl) (by kernel_rfl) (by kernel_rfl) (by kernel_rfl) (by kernel_rfl) (fun _ _ _ h => h) (by rfl) ?_ ?_
  rotate_left
  · intro W hW; have hW0 := Frm.tr E4.out hW; clear hW; go_simp <;> with_reducible rfl
  try simp only [Act.put, List.setIfInBounds_toArray, List.set_cons_zero, List.set_cons_succ]
  refine rz_take [20] (i := 19) (v := ?_) rfl (by kernel_rfl) (by kernel_rfl) (by kernel_rfl) (by kernel_rfl) (by kernel_rfl) (by kernel_rfl) (fun _ _ _ h => h) (by rfl) ?_ ?_
  rotate_left
  · intro W hW; have hW0 := Frm.tr E4.out hW; clear hW; go_simp <;> with_reducible rfl
  try simp only [Act.put, List.setIfInBounds_toArray, List.set_cons_zero, List.set_cons_succ]
  refine rz_last (i := 20) rfl (by kernel_rfl) (by rfl) (by rfl) (fun K hK => ?_)
  have q1 := KP4.out.frozen 0
  have r1 := KP4.out.cell 0
  simp at r1
  go_simp
  refine hK _ _ ?_; clear hK K q1 r1
  obtain ⟨W5, hW5⟩ : ∃ W5, W5 = W4.setCell ⟨P, 0, none⟩ (.slice A3 (L.length + 1) cap3) := ⟨_, rfl⟩
  have KP5 : Hid (Blk W5 P 32 #[.slice A3 (L.length + 1) cap3, .int .i64 l0, .int .i64 l1, .int .i64 l2, .int .i64 l3, .int .i64 (wq o0).c, .int .i64 (wq o0).s, .int .i64 (wq o0).k, .int .i64 (wq o0).i, .int .i64 (wq o0).m, .string (wq o0).d, .int .i64 (wq o1).c, .int .i64 (wq o1).s, .int .i64 (wq o1).k, .int .i64 (wq o1).i, .int .i64 (wq o1).m, .string (wq o1).d, .int .i64 (wq o2).c, .int .i64 (wq o2).s, .int .i64 (wq o2).k, .int .i64 (wq o2).i, .int .i64 (wq o2).m, .string (wq o2).d, .int .i64 xc, .int .i64 sq, .int .i64 xk, .int .i64 xi, .int .i64 xm, .string xd]) := by (show Blk _ _ _ _); rw [hW5]; exact KP4.out.set 0 _
  have F5 : Hid (Frm (fun k => k = P) W4 W5) := by (show Frm _ _ _); rw [hW5]; exact Frm.of_set _ _ _ rfl
  try rw [← hW5]
  clear hW5
  try simp only [Act.put, List.setIfInBounds_toArray, List.set_cons_zero, List.set_cons_succ]
  refine rz_done (by kernel_rfl) ?_ _
  clear z0 z1 z2 z3 y0 y23 y24 y25 y26 y27 y28
  have k23 := KP5.out.cell 23
  have g23 := KP5.out.frozen 23
  have k24 := KP5.out.cell 24
  have g24 := KP5.out.frozen 24
  have k25 := KP5.out.cell 25
  have g25 := KP5.out.frozen 25
  have k26 := KP5.out.cell 26
  have g26 := KP5.out.frozen 26
  have k27 := KP5.out.cell 27
  have g27 := KP5.out.frozen 27
  have k28 := KP5.out.cell 28
  have g28 := KP5.out.frozen 28
  simp at k23 k24 k25 k26 k27 k28
  go_wp2_with fail
  try go_ret
  obtain ⟨W6, hW6⟩ : ∃ W6, W6 = ((((((W5.setCell ⟨P, 23, none⟩ (.int .i64 0)).setCell ⟨P, 24, none⟩ (.int .i64 0)).setCell ⟨P, 25, none⟩ (.int .i64 0)).setCell ⟨P, 26, none⟩ (.int .i64 0)).setCell ⟨P, 27, none⟩ (.int .i64 0)).setCell ⟨P, 28, none⟩ (.string ⟨#[]⟩)) := ⟨_, rfl⟩
  have KP6 : Blk W6 P 32 #[.slice A3 (L.length + 1) cap3, .int .i64 l0, .int .i64 l1, .int .i64 l2, .int .i64 l3, .int .i64 (wq o0).c, .int .i64 (wq o0).s, .int .i64 (wq o0).k, .int .i64 (wq o0).i, .int .i64 (wq o0).m, .string (wq o0).d, .int .i64 (wq o1).c, .int .i64 (wq o1).s, .int .i64 (wq o1).k, .int .i64 (wq o1).i, .int .i64 (wq o1).m, .string (wq o1).d, .int .i64 (wq o2).c, .int .i64 (wq o2).s, .int .i64 (wq o2).k, .int .i64 (wq o2).i, .int .i64 (wq o2).m, .string (wq o2).d, .int .i64 0, .int .i64 0, .int .i64 0, .int .i64 0, .int .i64 0, .string ⟨#[]⟩] := by rw [hW6]; exact ((((((KP5.out.set 23 (.int .i64 0)).set 24 (.int .i64 0)).set 25 (.int .i64 0)).set 26 (.int .i64 0)).set 27 (.int .i64 0)).set 28 (.string ⟨#[]⟩))
  have F6 : Frm (fun k => k = P) W4 W6 := by rw [hW6]; exact Frm.tr (Frm.tr (Frm.tr (Frm.tr (Frm.tr (Frm.tr (F5.out) (Frm.of_set _ _ _ rfl)) (Frm.of_set _ _ _ rfl)) (Frm.of_set _ _ _ rfl)) (Frm.of_set _ _ _ rfl)) (Frm.of_set _ _ _ rfl)) (Frm.of_set _ _ _ rfl)
  try rw [← hW6]
  clear hW6
  have FA2 : Frm (Psel P G) W2 W6 := Frm.tr (E4.out.mono (fun k hk => Or.inr hk)) (F6.mono (fun k hk => Or.inl hk))
  have FA : Frm (Psel P G) w W6 := Frm.tr (Frm.of_below X2.out _) FA2
  have hkeep : ∀ k cs, Blk W2 k 3 cs → Blk W6 k 3 cs := fun k cs h => h.frm FA2 (fun hh => by
    rcases hh with hh | hh
    · subst hh; exact Blk.apart h KP2.out (by decide) rfl
    · exact hnG k _ cs (by decide) h hh)
  have O5 : W6.ownsRow base 50 14 (.slice A3 (L.length + 1) cap3) (L ++ [At.mk (Ac.mk 3 sq true (Rqv.mk xc sq xk xi xm xd) (Rpv.mk rc rv rd rl) at_) A2 c3]).length (flatA (L ++ [At.mk (Ac.mk 3 sq true (Rqv.mk xc sq xk xi xm xd) (Rpv.mk rc rv rd rl) at_) A2 c3])) := by
    rw [flatA_append, List.length_append]
    have h7 := own_frmN O4.out F6 (fun k hk e => own_blkne O4.out KP4.out (by decide) k hk e)
    have h8 : flatA [At.mk (Ac.mk 3 sq true (Rqv.mk xc sq xk xi xm xd) (Rpv.mk rc rv rd rl) at_) A2 c3] = [.int .i64 3, .int .i64 sq, .bool true, .int .i64 xc, .int .i64 sq, .int .i64 xk, .int .i64 xi, .int .i64 xm, .string xd, .int .i64 rc, .int .i64 rv, .string rd, .slice A2 N c3, .int .i64 at_] := by simp [flatA, acRow, HNN.out]
    rw [h8]
    exact h7
  refine hD.out _ _ ⟨rfl, _, ⟨HBP.out, .slice A3 (L.length + 1) cap3, l0, l1, l2, l3, o0, o1, o2, none, L ++ [At.mk (Ac.mk 3 sq true (Rqv.mk xc sq xk xi xm xd) (Rpv.mk rc rv rd rl) at_) A2 c3], KP6, HLS.out, ?_, O5, rfl, ?_, ?_⟩, FA, ?_⟩
  · show st.wait.set 3 none = _
    rw [HWS.out]; rfl
  · show _ = st.acts ++ [(⟨3, sq, true, (st.w 3).getD ⟨0, 0, 0, 0, 0, ⟨#[]⟩⟩, ⟨rc, rv, rd, rl⟩, at_⟩ : Ac)]
    rw [HOS.out, List.map_append, HL.out]; rfl
  · intro t ht
    rw [List.mem_append, List.mem_singleton] at ht
    rcases ht with ht | rfl
    · exact ((HIN.out t ht).stay X2.out).of (fun k cs h => hkeep k cs h)
    · exact IN2.out.of (fun k cs h => hkeep k cs h)
  · rcases BB4.out with h5 | h5
    · exact .inl (h5.trans HG.out)
    · exact .inr ⟨_, h5, Nat.le_trans X2.out.size (Nat.le_trans Xe.out.size X3.out.size)⟩


end Go.Proofs.Ytnionfddejaalaa
