/-
  The request of bytes: item.GetReq.
-/
import Derived.Test.YtdbnaflaobncgaaItemGet
namespace Go.Proofs.Ytdbnaflaobncgaa
set_option linter.unusedVariables false
set_option linter.unusedSimpArgs false
open Go.RowKit

theorem six_set {w : World} {b : Nat} {t : TypeId} {c0 c1 c2 c3 c4 c5 : Value} (h : Blk w b t #[c0, c1, c2, c3, c4, c5]) (v0 v1 v2 v3 v4 v5 : Value) :
    Blk ((((((w.setCell ⟨b, 0, none⟩ v0).setCell ⟨b, 1, none⟩ v1).setCell ⟨b, 2, none⟩ v2).setCell ⟨b, 3, none⟩ v3).setCell ⟨b, 4, none⟩ v4).setCell ⟨b, 5, none⟩ v5) b t #[v0, v1, v2, v3, v4, v5] ∧
    Frm (fun k => k = b) w ((((((w.setCell ⟨b, 0, none⟩ v0).setCell ⟨b, 1, none⟩ v1).setCell ⟨b, 2, none⟩ v2).setCell ⟨b, 3, none⟩ v3).setCell ⟨b, 4, none⟩ v4).setCell ⟨b, 5, none⟩ v5) :=
  ⟨(((((h.set 0 v0).set 1 v1).set 2 v2).set 3 v3).set 4 v4).set 5 v5,
   Frm.tr (Frm.of_set _ _ _ rfl) (Frm.tr (Frm.of_set _ _ _ rfl) (Frm.tr (Frm.of_set _ _ _ rfl) (Frm.tr (Frm.of_set _ _ _ rfl) (Frm.tr (Frm.of_set _ _ _ rfl) (Frm.of_set _ _ _ rfl)))))⟩

set_option maxRecDepth 8000 in
set_option maxHeartbeats 16000000 in
theorem getReq_any (A : Option Addr) (cap : Nat) (l : List UInt8) (w : World) (hs : Sl u8 w A l) (hl : l.length ≤ 1000000000) :
    Calls Try.prog 36 #[.slice A l.length cap] w fun e w' => ∃ q ec, GotQ l q ec ∧ e = .returned (.tuple #[q.val, .int .i64 ec]) ∧ Ext w w' := by
  refine hide_post fun D hD => ?_
  obtain ⟨b, hb⟩ : ∃ b, b = w.heap.size := ⟨_, rfl⟩
  obtain ⟨W0, hW0⟩ : ∃ W0, W0 = w.alloc (.cells #[.int .i64 0, .int .i64 0, .int .i64 0, .int .i64 0, .int .i64 0, .string ⟨#[]⟩] 30) := ⟨_, rfl⟩
  have hx0 : Ext w W0 := by rw [hW0]; exact Ext.alloc _ _
  have kr : Blk W0 b 30 #[.int .i64 0, .int .i64 0, .int .i64 0, .int .i64 0, .int .i64 0, .string ⟨#[]⟩] := by rw [hW0, hb]; exact Blk.new _ _ _
  have C1 := Lib.hid (new_any A cap l W0 (hs.stay hx0) hl)
  have HX0 := Lib.hid hx0
  have HKR := Lib.hid kr
  have HW0 := Lib.hid hW0
  have HB := Lib.hid hb
  have HL := Lib.hid hl
  clear hx0 kr hW0 hb hs
  go_enter Try.func36, Try.ntmps36
  go_wp2_with fail
  rw [← HW0.out, ← HB.out]
  go_at_call 56
  with_reducible refine C1.out.mono ?_
  rintro e w1 ⟨P, rfl, hrd, hx1, hP⟩
  have C2 := Lib.hid (getQ_any P l false w1 hrd hl)
  have HX1 := Lib.hid hx1
  have HP := Lib.hid hP
  clear C1 hrd hx1 hP
  go_wp2_with fail
  go_at_call 57
  with_reducible refine C2.out.mono ?_
  rintro e w2 ⟨q, l', b', hq, rfl, hqs, hl', hrd, hf⟩
  have hg := hq.got (by omega) (by omega) (by omega) (by omega) (by omega) (by omega)
  obtain ⟨c, s, k, i, m, d⟩ := q
  simp only at hqs
  have hx2 : Ext W0 w2 := hf.step HX1.out HX1.out.size (fun k hk => by subst hk; exact HP.out)
  have HG := Lib.hid hg
  obtain ⟨z, hz⟩ : ∃ z, z = w2.heap.size := ⟨_, rfl⟩
  obtain ⟨W3, hW3⟩ : ∃ W3, W3 = w2.alloc (.cells #[.int .i64 c, .int .i64 s, .int .i64 k, .int .i64 i, .int .i64 m, .string d] 30) := ⟨_, rfl⟩
  have hx3 : Ext w2 W3 := by rw [hW3]; exact Ext.alloc _ _
  have kz : Blk W3 z 30 #[.int .i64 c, .int .i64 s, .int .i64 k, .int .i64 i, .int .i64 m, .string d] := by rw [hW3, hz]; exact Blk.new _ _ _
  have C3 := Lib.hid (endR_any P l' b' W3 (hrd.stay hx3) hl')
  have C4 := Lib.hid (mayReq_any c s k i m d W3 (by unfold maxLen; omega))
  have kr3 := HKR.out.stay (Ext.trans hx2 hx3)
  have HX3 : Hid (Ext w W3) := Ext.trans HX0.out (Ext.trans hx2 hx3)
  have HKR3 := Lib.hid kr3
  have HKZ := Lib.hid kz
  have HW3 := Lib.hid hW3
  have HZ := Lib.hid hz
  have o0 : W3.cell? ⟨z, 0, none⟩ = some (.int .i64 c) := kz.cell 0
  have o1 : W3.cell? ⟨z, 1, none⟩ = some (.int .i64 s) := kz.cell 1
  have o2 : W3.cell? ⟨z, 2, none⟩ = some (.int .i64 k) := kz.cell 2
  have o3 : W3.cell? ⟨z, 3, none⟩ = some (.int .i64 i) := kz.cell 3
  have o4 : W3.cell? ⟨z, 4, none⟩ = some (.int .i64 m) := kz.cell 4
  have o5 : W3.cell? ⟨z, 5, none⟩ = some (.string d) := kz.cell 5
  have g0 := kr3.frozen 0
  have g1 := kr3.frozen 1
  have g2 := kr3.frozen 2
  have g3 := kr3.frozen 3
  have g4 := kr3.frozen 4
  have g5 := kr3.frozen 5
  have p0 : W3.cell? ⟨b, 0, none⟩ = some (.int .i64 0) := kr3.cell 0
  have p1 : W3.cell? ⟨b, 1, none⟩ = some (.int .i64 0) := kr3.cell 1
  have p2 : W3.cell? ⟨b, 2, none⟩ = some (.int .i64 0) := kr3.cell 2
  have p3 : W3.cell? ⟨b, 3, none⟩ = some (.int .i64 0) := kr3.cell 3
  have p4 : W3.cell? ⟨b, 4, none⟩ = some (.int .i64 0) := kr3.cell 4
  have p5 : W3.cell? ⟨b, 5, none⟩ = some (.string ⟨#[]⟩) := kr3.cell 5
  clear C2 hq hrd hf hg hx2 hx3 kz kr3 hz hW3
  unfold Rq.val
  generalize endN l' b' = en at *
  generalize hmr : mayReqB c s k i m d.size = mr at *
  have HMR : Hid (Rq.may ⟨c, s, k, i, m, d⟩ = mr) := hmr
  clear hmr
  go_wp2_with fail
  rw [← HW3.out, ← HZ.out]
  by_cases h0 : en = 0
  case neg =>
    have HGO : Hid (GotQ l Rq.zero 2) := HG.out.2 (fun h => h0 h.1)
    have hne : ((en : Int) == 0) = false := by simp [h0]
    clear HG
    go_wp2_with (go_at_call 58; (with_reducible refine C3.out.mono ?_); rintro e w4 ⟨rfl, rfl⟩)
    obtain ⟨K9, hF9⟩ := six_set HKR3.out (.int .i64 0) (.int .i64 0) (.int .i64 0) (.int .i64 0) (.int .i64 0) (.string ⟨#[]⟩)
    have hx9 := Frm.step HX3.out hF9 HX3.out.size (fun k hk => by rw [hk, HB.out]; exact Nat.le_refl _)
    clear o0 o1 o2 o3 o4 o5 g0 g1 g2 g3 g4 g5 p0 p1 p2 p3 p4 p5 hF9
    generalize ((((((W3.setCell ⟨b, 0, none⟩ (.int .i64 0)).setCell ⟨b, 1, none⟩ (.int .i64 0)).setCell ⟨b, 2, none⟩ (.int .i64 0)).setCell ⟨b, 3, none⟩ (.int .i64 0)).setCell ⟨b, 4, none⟩ (.int .i64 0)).setCell ⟨b, 5, none⟩ (.string ⟨#[]⟩)) = W9 at *
    have k0 : W9.cell? ⟨b, 0, none⟩ = some (.int .i64 0) := K9.cell 0
    have k1 : W9.cell? ⟨b, 1, none⟩ = some (.int .i64 0) := K9.cell 1
    have k2 : W9.cell? ⟨b, 2, none⟩ = some (.int .i64 0) := K9.cell 2
    have k3 : W9.cell? ⟨b, 3, none⟩ = some (.int .i64 0) := K9.cell 3
    have k4 : W9.cell? ⟨b, 4, none⟩ = some (.int .i64 0) := K9.cell 4
    have k5 : W9.cell? ⟨b, 5, none⟩ = some (.string ⟨#[]⟩) := K9.cell 5
    exact bodyPost_ret (v := .tuple #[.agg #[.int .i64 0, .int .i64 0, .int .i64 0, .int .i64 0, .int .i64 0, .string ⟨#[]⟩], .int .i64 2]) (by simp [results, Try.results36, go_sem, k0, k1, k2, k3, k4, k5]) rfl (hD.out _ _ ⟨Rq.zero, 2, HGO.out, rfl, hx9⟩)
  case pos =>
    subst h0
    cases mr
    case false =>
      have HGO : Hid (GotQ l Rq.zero 2) := HG.out.2 (fun h => by have := h.2; rw [HMR.out] at this; cases this)
      clear HG
      go_wp2_with (first
        | (go_at_call 58; (with_reducible refine C3.out.mono ?_); rintro e w4 ⟨rfl, rfl⟩)
        | (go_at_call 32; (with_reducible refine C4.out.mono ?_); rintro e w5 ⟨rfl, hx⟩; have HX5 : Hid (Ext w w5) := Ext.trans HX3.out hx; have kr5 := HKR3.out.stay hx; have HKR5 := Lib.hid kr5; have r0 := kr5.frozen 0; have r1 := kr5.frozen 1; have r2 := kr5.frozen 2; have r3 := kr5.frozen 3; have r4 := kr5.frozen 4; have r5 := kr5.frozen 5; have u0 : w5.cell? ⟨b, 0, none⟩ = some (.int .i64 0) := kr5.cell 0; have u1 : w5.cell? ⟨b, 1, none⟩ = some (.int .i64 0) := kr5.cell 1; have u2 : w5.cell? ⟨b, 2, none⟩ = some (.int .i64 0) := kr5.cell 2; have u3 : w5.cell? ⟨b, 3, none⟩ = some (.int .i64 0) := kr5.cell 3; have u4 : w5.cell? ⟨b, 4, none⟩ = some (.int .i64 0) := kr5.cell 4; have u5 : w5.cell? ⟨b, 5, none⟩ = some (.string ⟨#[]⟩) := kr5.cell 5; clear hx kr5))
      obtain ⟨K9, hF9⟩ := six_set HKR5.out (.int .i64 0) (.int .i64 0) (.int .i64 0) (.int .i64 0) (.int .i64 0) (.string ⟨#[]⟩)
      have hx9 := Frm.step HX5.out hF9 HX5.out.size (fun k hk => by rw [hk, HB.out]; exact Nat.le_refl _)
      clear o0 o1 o2 o3 o4 o5 g0 g1 g2 g3 g4 g5 p0 p1 p2 p3 p4 p5 r0 r1 r2 r3 r4 r5 u0 u1 u2 u3 u4 u5 hF9
      generalize ((((((w5.setCell ⟨b, 0, none⟩ (.int .i64 0)).setCell ⟨b, 1, none⟩ (.int .i64 0)).setCell ⟨b, 2, none⟩ (.int .i64 0)).setCell ⟨b, 3, none⟩ (.int .i64 0)).setCell ⟨b, 4, none⟩ (.int .i64 0)).setCell ⟨b, 5, none⟩ (.string ⟨#[]⟩)) = W9 at *
      have k0 : W9.cell? ⟨b, 0, none⟩ = some (.int .i64 0) := K9.cell 0
      have k1 : W9.cell? ⟨b, 1, none⟩ = some (.int .i64 0) := K9.cell 1
      have k2 : W9.cell? ⟨b, 2, none⟩ = some (.int .i64 0) := K9.cell 2
      have k3 : W9.cell? ⟨b, 3, none⟩ = some (.int .i64 0) := K9.cell 3
      have k4 : W9.cell? ⟨b, 4, none⟩ = some (.int .i64 0) := K9.cell 4
      have k5 : W9.cell? ⟨b, 5, none⟩ = some (.string ⟨#[]⟩) := K9.cell 5
      exact bodyPost_ret (v := .tuple #[.agg #[.int .i64 0, .int .i64 0, .int .i64 0, .int .i64 0, .int .i64 0, .string ⟨#[]⟩], .int .i64 2]) (by simp [results, Try.results36, go_sem, k0, k1, k2, k3, k4, k5]) rfl (hD.out _ _ ⟨Rq.zero, 2, HGO.out, rfl, hx9⟩)
    case true =>
      have HGO : Hid (GotQ l ⟨c, s, k, i, m, d⟩ 0) := HG.out.1 ⟨rfl, HMR.out⟩
      clear HG
      go_wp2_with (first
        | (go_at_call 58; (with_reducible refine C3.out.mono ?_); rintro e w4 ⟨rfl, rfl⟩)
        | (go_at_call 32; (with_reducible refine C4.out.mono ?_); rintro e w5 ⟨rfl, hx⟩; have HX5 : Hid (Ext w w5) := Ext.trans HX3.out hx; have kr5 := HKR3.out.stay hx; have kz5 := HKZ.out.stay hx; have HKR5 := Lib.hid kr5; have r0 := kr5.frozen 0; have r1 := kr5.frozen 1; have r2 := kr5.frozen 2; have r3 := kr5.frozen 3; have r4 := kr5.frozen 4; have r5 := kr5.frozen 5; have u0 : w5.cell? ⟨b, 0, none⟩ = some (.int .i64 0) := kr5.cell 0; have u1 : w5.cell? ⟨b, 1, none⟩ = some (.int .i64 0) := kr5.cell 1; have u2 : w5.cell? ⟨b, 2, none⟩ = some (.int .i64 0) := kr5.cell 2; have u3 : w5.cell? ⟨b, 3, none⟩ = some (.int .i64 0) := kr5.cell 3; have u4 : w5.cell? ⟨b, 4, none⟩ = some (.int .i64 0) := kr5.cell 4; have u5 : w5.cell? ⟨b, 5, none⟩ = some (.string ⟨#[]⟩) := kr5.cell 5; have t0 : w5.cell? ⟨z, 0, none⟩ = some (.int .i64 c) := kz5.cell 0; have t1 : w5.cell? ⟨z, 1, none⟩ = some (.int .i64 s) := kz5.cell 1; have t2 : w5.cell? ⟨z, 2, none⟩ = some (.int .i64 k) := kz5.cell 2; have t3 : w5.cell? ⟨z, 3, none⟩ = some (.int .i64 i) := kz5.cell 3; have t4 : w5.cell? ⟨z, 4, none⟩ = some (.int .i64 m) := kz5.cell 4; have t5 : w5.cell? ⟨z, 5, none⟩ = some (.string d) := kz5.cell 5; clear hx kr5 kz5))
      obtain ⟨K9, hF9⟩ := six_set HKR5.out (.int .i64 c) (.int .i64 s) (.int .i64 k) (.int .i64 i) (.int .i64 m) (.string d)
      have hx9 := Frm.step HX5.out hF9 HX5.out.size (fun k hk => by rw [hk, HB.out]; exact Nat.le_refl _)
      clear o0 o1 o2 o3 o4 o5 g0 g1 g2 g3 g4 g5 p0 p1 p2 p3 p4 p5 r0 r1 r2 r3 r4 r5 u0 u1 u2 u3 u4 u5 t0 t1 t2 t3 t4 t5 hF9
      generalize ((((((w5.setCell ⟨b, 0, none⟩ (.int .i64 c)).setCell ⟨b, 1, none⟩ (.int .i64 s)).setCell ⟨b, 2, none⟩ (.int .i64 k)).setCell ⟨b, 3, none⟩ (.int .i64 i)).setCell ⟨b, 4, none⟩ (.int .i64 m)).setCell ⟨b, 5, none⟩ (.string d)) = W9 at *
      have k0 : W9.cell? ⟨b, 0, none⟩ = some (.int .i64 c) := K9.cell 0
      have k1 : W9.cell? ⟨b, 1, none⟩ = some (.int .i64 s) := K9.cell 1
      have k2 : W9.cell? ⟨b, 2, none⟩ = some (.int .i64 k) := K9.cell 2
      have k3 : W9.cell? ⟨b, 3, none⟩ = some (.int .i64 i) := K9.cell 3
      have k4 : W9.cell? ⟨b, 4, none⟩ = some (.int .i64 m) := K9.cell 4
      have k5 : W9.cell? ⟨b, 5, none⟩ = some (.string d) := K9.cell 5
      exact bodyPost_ret (v := .tuple #[.agg #[.int .i64 c, .int .i64 s, .int .i64 k, .int .i64 i, .int .i64 m, .string d], .int .i64 0]) (by simp [results, Try.results36, go_sem, k0, k1, k2, k3, k4, k5]) rfl (hD.out _ _ ⟨⟨c, s, k, i, m, d⟩, 0, HGO.out, rfl, hx9⟩)
end Go.Proofs.Ytdbnaflaobncgaa
