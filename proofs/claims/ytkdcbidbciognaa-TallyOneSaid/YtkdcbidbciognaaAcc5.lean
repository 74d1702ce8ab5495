/-
  The acceptor (law 13): Prepare, Learn, Accept, where they do it.
-/
import Derived.Test.YtkdcbidbciognaaAcc4
namespace Go.Proofs.Ytkdcbidbciognaa
set_option linter.unusedVariables false
set_option linter.unusedSimpArgs false
open Go.RowKit

set_option maxRecDepth 8000 in
set_option maxHeartbeats 16000000 in
theorem prep_ok (a : Nat) (n kep : Int) (kns : List Int) (pr pn ar an : Int) (has : Bool) (vep : Int) (vns : List Int) (ep br bn : Int) (w : World) (H : AAt w a ⟨n, kep, kns, pr, pn, ar, an, has, vep, vns⟩) (hk0 : 0 ≤ kep ∧ kep ≤ 1073741824) (hr : prepE ⟨n, kep, kns, pr, pn, ar, an, has, vep, vns⟩ ep br bn = 0) (hvl : vns.length ≤ 1000000) :
    Calls Try.prog 27 #[pA a, .int .i64 ep, .agg #[.int .i64 br, .int .i64 bn]] w fun e w' => ∃ A c, e = .returned (.tuple #[.agg #[.int .i64 br, .int .i64 bn, .int .i64 ar, .int .i64 an, .bool has, .int .i64 vep, .slice A vns.length c], .int .i64 0]) ∧ In w' A c vns ∧ AAt w' a ⟨n, kep, kns, br, bn, ar, an, has, vep, vns⟩ ∧ Frm (oneA a) w w' := by
  refine hide_post fun D hD => ?_
  obtain ⟨w0, hw0⟩ : ∃ w0, w0 = ((((w.alloc (.cells #[pA a] 48)).alloc (.cells #[.int .i64 ep] 3)).alloc (.cells #[.int .i64 br, .int .i64 bn] 23)).alloc (.cells #[.int .i64 0, .int .i64 0, .int .i64 0, .int .i64 0, .bool false, .int .i64 0, .slice none 0 0] 40)) := ⟨_, rfl⟩
  have hb0 : Ext w w0 := by rw [hw0]; exact Ext.trans (Ext.trans (Ext.trans (Ext.trans (Ext.refl _) (ext_al _ _)) (ext_al _ _)) (ext_al _ _)) (ext_al _ _)
  have hz0 : w0.heap.size = w.heap.size + 4 := by rw [hw0]; simp
  have KgA : Hid (Blk w0 (w.heap.size) 48 #[pA a]) := by show Blk _ _ _ _; rw [hw0]; exact ((((Blk.new' _ _ _ _ (by simp)).alloc _).alloc _).alloc _)
  have KgE : Hid (Blk w0 (w.heap.size + 1) 3 #[.int .i64 ep]) := by show Blk _ _ _ _; rw [hw0]; exact (((Blk.new' _ _ _ _ (by simp)).alloc _).alloc _)
  have KgB : Hid (Blk w0 (w.heap.size + 1 + 1) 23 #[.int .i64 br, .int .i64 bn]) := by show Blk _ _ _ _; rw [hw0]; exact ((Blk.new' _ _ _ _ (by simp)).alloc _)
  have KgR : Hid (Blk w0 (w.heap.size + 1 + 1 + 1) 40 #[.int .i64 0, .int .i64 0, .int .i64 0, .int .i64 0, .bool false, .int .i64 0, .slice none 0 0]) := by show Blk _ _ _ _; rw [hw0]; exact (Blk.new' _ _ _ _ (by simp))
  have HW0 : Hid (∀ V, Calls Try.prog 53 #[.func (.func 54) #[] #[.pointer (some ⟨w.heap.size, 0, none⟩), .pointer (some ⟨w.heap.size + 1 + 1, 0, none⟩)], .int .i64 1] V fun r w' => ∃ g, r = .returned (.func (.func 87) #[] #[.pointer (some ⟨g, 0, none⟩), .pointer (some ⟨g + 1, 0, none⟩)]) ∧ Blk w' g 28 #[.func (.func 54) #[] #[.pointer (some ⟨w.heap.size, 0, none⟩), .pointer (some ⟨w.heap.size + 1 + 1, 0, none⟩)]] ∧ Blk w' (g + 1) 3 #[.int .i64 1] ∧ Ext V w') := fun V => when_any _ _ V ⟨_, _, rfl⟩
  have HW1 : Hid (∀ V, Calls Try.prog 53 #[.func (.func 55) #[] #[.pointer (some ⟨w.heap.size + 1, 0, none⟩), .pointer (some ⟨w.heap.size, 0, none⟩)], .int .i64 7] V fun r w' => ∃ g, r = .returned (.func (.func 87) #[] #[.pointer (some ⟨g, 0, none⟩), .pointer (some ⟨g + 1, 0, none⟩)]) ∧ Blk w' g 28 #[.func (.func 55) #[] #[.pointer (some ⟨w.heap.size + 1, 0, none⟩), .pointer (some ⟨w.heap.size, 0, none⟩)]] ∧ Blk w' (g + 1) 3 #[.int .i64 7] ∧ Ext V w') := fun V => when_any _ _ V ⟨_, _, rfl⟩
  have HW2 : Hid (∀ V, Calls Try.prog 53 #[.func (.func 56) #[] #[.pointer (some ⟨w.heap.size + 1, 0, none⟩), .pointer (some ⟨w.heap.size, 0, none⟩)], .int .i64 4] V fun r w' => ∃ g, r = .returned (.func (.func 87) #[] #[.pointer (some ⟨g, 0, none⟩), .pointer (some ⟨g + 1, 0, none⟩)]) ∧ Blk w' g 28 #[.func (.func 56) #[] #[.pointer (some ⟨w.heap.size + 1, 0, none⟩), .pointer (some ⟨w.heap.size, 0, none⟩)]] ∧ Blk w' (g + 1) 3 #[.int .i64 4] ∧ Ext V w') := fun V => when_any _ _ V ⟨_, _, rfl⟩
  have HW3 : Hid (∀ V, Calls Try.prog 53 #[.func (.func 57) #[] #[.pointer (some ⟨w.heap.size + 1 + 1, 0, none⟩), .pointer (some ⟨w.heap.size, 0, none⟩)], .int .i64 7] V fun r w' => ∃ g, r = .returned (.func (.func 87) #[] #[.pointer (some ⟨g, 0, none⟩), .pointer (some ⟨g + 1, 0, none⟩)]) ∧ Blk w' g 28 #[.func (.func 57) #[] #[.pointer (some ⟨w.heap.size + 1 + 1, 0, none⟩), .pointer (some ⟨w.heap.size, 0, none⟩)]] ∧ Blk w' (g + 1) 3 #[.int .i64 7] ∧ Ext V w') := fun V => when_any _ _ V ⟨_, _, rfl⟩
  have HK0 := Lib.hid hk0
  have H0 := Lib.hid H
  have HR := Lib.hid hr
  have HB := Lib.hid hb0
  have HW := Lib.hid hw0
  have hlt := H.lt
  have HVL := Lib.hid hvl
  have HLT : Hid (a < w.heap.size) := hlt
  clear hb0 hw0 hz0 hk0 H hr hvl hlt
  unfold pA at *
  go_enter Try.func27, Try.ntmps27
  go_wp2_with (first
    | (go_at_call 53; rw [← HW.out]; (with_reducible refine (HW0.out _).mono ?_); rintro e w1 ⟨u0, rfl, k, k', hx⟩; have K0 := Lib.hid k; have K0' := Lib.hid k'; have X0 : Hid (Ext w0 w1) := hx; clear k k' hx)
    | (go_at_call 53; (with_reducible refine (HW1.out _).mono ?_); rintro e w2 ⟨u1, rfl, k, k', hx⟩; have K1 := Lib.hid k; have K1' := Lib.hid k'; have X1 : Hid (Ext w1 w2) := hx; clear k k' hx)
    | (go_at_call 53; (with_reducible refine (HW2.out _).mono ?_); rintro e w3 ⟨u2, rfl, k, k', hx⟩; have K2 := Lib.hid k; have K2' := Lib.hid k'; have X2 : Hid (Ext w2 w3) := hx; clear k k' hx)
    | (go_at_call 53; (with_reducible refine (HW3.out _).mono ?_); rintro e w4 ⟨u3, rfl, k, k', hx⟩; have K3 := Lib.hid k; have K3' := Lib.hid k'; have X3 : Hid (Ext w3 w4) := hx; clear k k' hx)
    | (go_at_call 52; have hq := prep_first (w.heap.size) (w.heap.size + 1) (w.heap.size + 1 + 1) u0 u1 u2 u3 _ a _ ep br bn (w4.alloc (.cells #[.func (.func 87) #[] #[.pointer (some ⟨u0, 0, none⟩), .pointer (some ⟨u0 + 1, 0, none⟩)], .func (.func 87) #[] #[.pointer (some ⟨u1, 0, none⟩), .pointer (some ⟨u1 + 1, 0, none⟩)], .func (.func 87) #[] #[.pointer (some ⟨u2, 0, none⟩), .pointer (some ⟨u2 + 1, 0, none⟩)], .func (.func 87) #[] #[.pointer (some ⟨u3, 0, none⟩), .pointer (some ⟨u3 + 1, 0, none⟩)]] 95)) (H0.out.stay (Ext.trans HB.out (Ext.trans (Ext.trans (Ext.trans (Ext.trans (Ext.trans (Ext.refl _) X0.out) X1.out) X2.out) X3.out) (ext_al _ (.cells #[.func (.func 87) #[] #[.pointer (some ⟨u0, 0, none⟩), .pointer (some ⟨u0 + 1, 0, none⟩)], .func (.func 87) #[] #[.pointer (some ⟨u1, 0, none⟩), .pointer (some ⟨u1 + 1, 0, none⟩)], .func (.func 87) #[] #[.pointer (some ⟨u2, 0, none⟩), .pointer (some ⟨u2 + 1, 0, none⟩)], .func (.func 87) #[] #[.pointer (some ⟨u3, 0, none⟩), .pointer (some ⟨u3 + 1, 0, none⟩)]] 95))))) HK0.out (KgA.out.stay (Ext.trans (Ext.trans (Ext.trans (Ext.trans (Ext.trans (Ext.refl _) X0.out) X1.out) X2.out) X3.out) (ext_al _ (.cells #[.func (.func 87) #[] #[.pointer (some ⟨u0, 0, none⟩), .pointer (some ⟨u0 + 1, 0, none⟩)], .func (.func 87) #[] #[.pointer (some ⟨u1, 0, none⟩), .pointer (some ⟨u1 + 1, 0, none⟩)], .func (.func 87) #[] #[.pointer (some ⟨u2, 0, none⟩), .pointer (some ⟨u2 + 1, 0, none⟩)], .func (.func 87) #[] #[.pointer (some ⟨u3, 0, none⟩), .pointer (some ⟨u3 + 1, 0, none⟩)]] 95)))) (KgE.out.stay (Ext.trans (Ext.trans (Ext.trans (Ext.trans (Ext.trans (Ext.refl _) X0.out) X1.out) X2.out) X3.out) (ext_al _ (.cells #[.func (.func 87) #[] #[.pointer (some ⟨u0, 0, none⟩), .pointer (some ⟨u0 + 1, 0, none⟩)], .func (.func 87) #[] #[.pointer (some ⟨u1, 0, none⟩), .pointer (some ⟨u1 + 1, 0, none⟩)], .func (.func 87) #[] #[.pointer (some ⟨u2, 0, none⟩), .pointer (some ⟨u2 + 1, 0, none⟩)], .func (.func 87) #[] #[.pointer (some ⟨u3, 0, none⟩), .pointer (some ⟨u3 + 1, 0, none⟩)]] 95)))) (KgB.out.stay (Ext.trans (Ext.trans (Ext.trans (Ext.trans (Ext.trans (Ext.refl _) X0.out) X1.out) X2.out) X3.out) (ext_al _ (.cells #[.func (.func 87) #[] #[.pointer (some ⟨u0, 0, none⟩), .pointer (some ⟨u0 + 1, 0, none⟩)], .func (.func 87) #[] #[.pointer (some ⟨u1, 0, none⟩), .pointer (some ⟨u1 + 1, 0, none⟩)], .func (.func 87) #[] #[.pointer (some ⟨u2, 0, none⟩), .pointer (some ⟨u2 + 1, 0, none⟩)], .func (.func 87) #[] #[.pointer (some ⟨u3, 0, none⟩), .pointer (some ⟨u3 + 1, 0, none⟩)]] 95)))) (K0.out.stay (Ext.trans (Ext.trans (Ext.trans (Ext.trans (Ext.refl _) X1.out) X2.out) X3.out) (ext_al _ (.cells #[.func (.func 87) #[] #[.pointer (some ⟨u0, 0, none⟩), .pointer (some ⟨u0 + 1, 0, none⟩)], .func (.func 87) #[] #[.pointer (some ⟨u1, 0, none⟩), .pointer (some ⟨u1 + 1, 0, none⟩)], .func (.func 87) #[] #[.pointer (some ⟨u2, 0, none⟩), .pointer (some ⟨u2 + 1, 0, none⟩)], .func (.func 87) #[] #[.pointer (some ⟨u3, 0, none⟩), .pointer (some ⟨u3 + 1, 0, none⟩)]] 95)))) (K0'.out.stay (Ext.trans (Ext.trans (Ext.trans (Ext.trans (Ext.refl _) X1.out) X2.out) X3.out) (ext_al _ (.cells #[.func (.func 87) #[] #[.pointer (some ⟨u0, 0, none⟩), .pointer (some ⟨u0 + 1, 0, none⟩)], .func (.func 87) #[] #[.pointer (some ⟨u1, 0, none⟩), .pointer (some ⟨u1 + 1, 0, none⟩)], .func (.func 87) #[] #[.pointer (some ⟨u2, 0, none⟩), .pointer (some ⟨u2 + 1, 0, none⟩)], .func (.func 87) #[] #[.pointer (some ⟨u3, 0, none⟩), .pointer (some ⟨u3 + 1, 0, none⟩)]] 95)))) (K1.out.stay (Ext.trans (Ext.trans (Ext.trans (Ext.refl _) X2.out) X3.out) (ext_al _ (.cells #[.func (.func 87) #[] #[.pointer (some ⟨u0, 0, none⟩), .pointer (some ⟨u0 + 1, 0, none⟩)], .func (.func 87) #[] #[.pointer (some ⟨u1, 0, none⟩), .pointer (some ⟨u1 + 1, 0, none⟩)], .func (.func 87) #[] #[.pointer (some ⟨u2, 0, none⟩), .pointer (some ⟨u2 + 1, 0, none⟩)], .func (.func 87) #[] #[.pointer (some ⟨u3, 0, none⟩), .pointer (some ⟨u3 + 1, 0, none⟩)]] 95)))) (K1'.out.stay (Ext.trans (Ext.trans (Ext.trans (Ext.refl _) X2.out) X3.out) (ext_al _ (.cells #[.func (.func 87) #[] #[.pointer (some ⟨u0, 0, none⟩), .pointer (some ⟨u0 + 1, 0, none⟩)], .func (.func 87) #[] #[.pointer (some ⟨u1, 0, none⟩), .pointer (some ⟨u1 + 1, 0, none⟩)], .func (.func 87) #[] #[.pointer (some ⟨u2, 0, none⟩), .pointer (some ⟨u2 + 1, 0, none⟩)], .func (.func 87) #[] #[.pointer (some ⟨u3, 0, none⟩), .pointer (some ⟨u3 + 1, 0, none⟩)]] 95)))) (K2.out.stay (Ext.trans (Ext.trans (Ext.refl _) X3.out) (ext_al _ (.cells #[.func (.func 87) #[] #[.pointer (some ⟨u0, 0, none⟩), .pointer (some ⟨u0 + 1, 0, none⟩)], .func (.func 87) #[] #[.pointer (some ⟨u1, 0, none⟩), .pointer (some ⟨u1 + 1, 0, none⟩)], .func (.func 87) #[] #[.pointer (some ⟨u2, 0, none⟩), .pointer (some ⟨u2 + 1, 0, none⟩)], .func (.func 87) #[] #[.pointer (some ⟨u3, 0, none⟩), .pointer (some ⟨u3 + 1, 0, none⟩)]] 95)))) (K2'.out.stay (Ext.trans (Ext.trans (Ext.refl _) X3.out) (ext_al _ (.cells #[.func (.func 87) #[] #[.pointer (some ⟨u0, 0, none⟩), .pointer (some ⟨u0 + 1, 0, none⟩)], .func (.func 87) #[] #[.pointer (some ⟨u1, 0, none⟩), .pointer (some ⟨u1 + 1, 0, none⟩)], .func (.func 87) #[] #[.pointer (some ⟨u2, 0, none⟩), .pointer (some ⟨u2 + 1, 0, none⟩)], .func (.func 87) #[] #[.pointer (some ⟨u3, 0, none⟩), .pointer (some ⟨u3 + 1, 0, none⟩)]] 95)))) (K3.out.stay (Ext.trans (Ext.refl _) (ext_al _ (.cells #[.func (.func 87) #[] #[.pointer (some ⟨u0, 0, none⟩), .pointer (some ⟨u0 + 1, 0, none⟩)], .func (.func 87) #[] #[.pointer (some ⟨u1, 0, none⟩), .pointer (some ⟨u1 + 1, 0, none⟩)], .func (.func 87) #[] #[.pointer (some ⟨u2, 0, none⟩), .pointer (some ⟨u2 + 1, 0, none⟩)], .func (.func 87) #[] #[.pointer (some ⟨u3, 0, none⟩), .pointer (some ⟨u3 + 1, 0, none⟩)]] 95)))) (K3'.out.stay (Ext.trans (Ext.refl _) (ext_al _ (.cells #[.func (.func 87) #[] #[.pointer (some ⟨u0, 0, none⟩), .pointer (some ⟨u0 + 1, 0, none⟩)], .func (.func 87) #[] #[.pointer (some ⟨u1, 0, none⟩), .pointer (some ⟨u1 + 1, 0, none⟩)], .func (.func 87) #[] #[.pointer (some ⟨u2, 0, none⟩), .pointer (some ⟨u2 + 1, 0, none⟩)], .func (.func 87) #[] #[.pointer (some ⟨u3, 0, none⟩), .pointer (some ⟨u3 + 1, 0, none⟩)]] 95)))) (Blk.new _ _ _) _ HR.out; (with_reducible refine hq.mono ?_); clear hq; rintro e wf ⟨rfl, hx⟩; have XF : Hid (Ext w0 wf) := Ext.trans (Ext.trans (Ext.trans (Ext.trans (Ext.trans (Ext.trans (Ext.refl _) X0.out) X1.out) X2.out) X3.out) (ext_al _ (.cells #[.func (.func 87) #[] #[.pointer (some ⟨u0, 0, none⟩), .pointer (some ⟨u0 + 1, 0, none⟩)], .func (.func 87) #[] #[.pointer (some ⟨u1, 0, none⟩), .pointer (some ⟨u1 + 1, 0, none⟩)], .func (.func 87) #[] #[.pointer (some ⟨u2, 0, none⟩), .pointer (some ⟨u2 + 1, 0, none⟩)], .func (.func 87) #[] #[.pointer (some ⟨u3, 0, none⟩), .pointer (some ⟨u3 + 1, 0, none⟩)]] 95))) hx; clear hx; obtain ⟨kA, kc, vA, vc, kB, hk, hv⟩ := H0.out.stay (Ext.trans HB.out XF.out); have bA0 := (KgA.out.stay XF.out).cell 0; have bB0 := (KgB.out.stay XF.out).cell 0; have bB1 := (KgB.out.stay XF.out).cell 1; have a3 : wf.cell? ⟨a, 3, none⟩ = some (.int .i64 pr) := kB.cell 3; have a4 : wf.cell? ⟨a, 4, none⟩ = some (.int .i64 pn) := kB.cell 4; have f3 := kB.frozen 3; have f4 := kB.frozen 4; simp at bA0 bB0 bB1; have na : a ≠ (w.heap.size) := (by have := HLT.out; omega); have na2 : a ≠ (w.heap.size + 1 + 1) := (by have := HLT.out; omega); have KB := Lib.hid kB; have HK := Lib.hid hk; have HV := Lib.hid hv; have HA5 := Lib.hid (H0.out.stay (Ext.trans HB.out XF.out)); have F6 : Hid (Frm (oneA a) wf ((wf.setCell ⟨a, 3, none⟩ (.int .i64 br)).setCell ⟨a, 4, none⟩ (.int .i64 bn))) := Frm.tr (Frm.of_set _ _ _ rfl) (Frm.of_set _ _ _ rfl); have A6 : Hid (AAt ((wf.setCell ⟨a, 3, none⟩ (.int .i64 br)).setCell ⟨a, 4, none⟩ (.int .i64 bn)) a ⟨n, kep, kns, br, bn, ar, an, has, vep, vns⟩) := ⟨kA, kc, vA, vc, (kB.set 3 (.int .i64 br)).set 4 (.int .i64 bn), hk.other HA5.out F6.out, hv.other HA5.out F6.out⟩; clear kB hk hv; have q6 : Hid (Blk ((wf.setCell ⟨a, 3, none⟩ (.int .i64 br)).setCell ⟨a, 4, none⟩ (.int .i64 bn)) (w.heap.size + 1 + 1 + 1) 40 #[.int .i64 0, .int .i64 0, .int .i64 0, .int .i64 0, .bool false, .int .i64 0, .slice none 0 0]) := (KgR.out.stay XF.out).frm F6.out (show ¬ (w.heap.size + 1 + 1 + 1) = a by have := HLT.out; omega))
    | (go_at_call 29; have hq := vote_any a _ _ A6.out HVL.out; (with_reducible refine hq.mono ?_); clear hq; rintro e w7 ⟨A', c', rfl, hin, hx⟩; have rc0 := (q6.out.stay hx).cell 0; have rf0 := (q6.out.stay hx).frozen 0; have rc1 := (q6.out.stay hx).cell 1; have rf1 := (q6.out.stay hx).frozen 1; have rc2 := (q6.out.stay hx).cell 2; have rf2 := (q6.out.stay hx).frozen 2; have rc3 := (q6.out.stay hx).cell 3; have rf3 := (q6.out.stay hx).frozen 3; have rc4 := (q6.out.stay hx).cell 4; have rf4 := (q6.out.stay hx).frozen 4; have rc5 := (q6.out.stay hx).cell 5; have rf5 := (q6.out.stay hx).frozen 5; have rc6 := (q6.out.stay hx).cell 6; have rf6 := (q6.out.stay hx).frozen 6; have KR := Lib.hid (q6.out.stay hx); have HIN := Lib.hid hin; have A7 := Lib.hid (A6.out.stay hx); have X7 := Lib.hid hx; clear hx hin))
  have F8 : Hid (Frm (fun k => k = (w.heap.size + 1 + 1 + 1)) w7 (((((((w7.setCell ⟨(w.heap.size + 1 + 1 + 1), 0, none⟩ (.int .i64 br)).setCell ⟨(w.heap.size + 1 + 1 + 1), 1, none⟩ (.int .i64 bn)).setCell ⟨(w.heap.size + 1 + 1 + 1), 2, none⟩ (.int .i64 ar)).setCell ⟨(w.heap.size + 1 + 1 + 1), 3, none⟩ (.int .i64 an)).setCell ⟨(w.heap.size + 1 + 1 + 1), 4, none⟩ (.bool has)).setCell ⟨(w.heap.size + 1 + 1 + 1), 5, none⟩ (.int .i64 vep)).setCell ⟨(w.heap.size + 1 + 1 + 1), 6, none⟩ (.slice A' vns.length c'))) := Frm.tr (Frm.tr (Frm.tr (Frm.tr (Frm.tr (Frm.tr (Frm.tr (Frm.refl (fun k => k = (w.heap.size + 1 + 1 + 1)) w7) (Frm.of_set _ ⟨(w.heap.size + 1 + 1 + 1), 0, none⟩ (.int .i64 br) rfl)) (Frm.of_set _ ⟨(w.heap.size + 1 + 1 + 1), 1, none⟩ (.int .i64 bn) rfl)) (Frm.of_set _ ⟨(w.heap.size + 1 + 1 + 1), 2, none⟩ (.int .i64 ar) rfl)) (Frm.of_set _ ⟨(w.heap.size + 1 + 1 + 1), 3, none⟩ (.int .i64 an) rfl)) (Frm.of_set _ ⟨(w.heap.size + 1 + 1 + 1), 4, none⟩ (.bool has) rfl)) (Frm.of_set _ ⟨(w.heap.size + 1 + 1 + 1), 5, none⟩ (.int .i64 vep) rfl)) (Frm.of_set _ ⟨(w.heap.size + 1 + 1 + 1), 6, none⟩ (.slice A' vns.length c') rfl)
  have KA := Lib.hid ((((((((KR.out.set 0 (.int .i64 br)).set 1 (.int .i64 bn)).set 2 (.int .i64 ar)).set 3 (.int .i64 an)).set 4 (.bool has)).set 5 (.int .i64 vep)).set 6 (.slice A' vns.length c')))
  have hc0 := KA.out.cell 0
  have hc1 := KA.out.cell 1
  have hc2 := KA.out.cell 2
  have hc3 := KA.out.cell 3
  have hc4 := KA.out.cell 4
  have hc5 := KA.out.cell 5
  have hc6 := KA.out.cell 6
  have hni : ∀ g cs, Blk w7 g 3 cs → ¬ g = (w.heap.size + 1 + 1 + 1) := fun g cs hb e => Blk.apart hb KR.out (by decide) e
  have hE := hD.out (.returned (.tuple #[.agg #[.int .i64 br, .int .i64 bn, .int .i64 ar, .int .i64 an, .bool has, .int .i64 vep, .slice A' vns.length c'], .int .i64 0])) _ ⟨A', c', rfl, HIN.out.frm F8.out hni, A7.out.frm F8.out (show ¬ a = (w.heap.size + 1 + 1 + 1) by have := HLT.out; omega) hni, Frm.drop (s := fun k => k = a ∨ k = (w.heap.size + 1 + 1 + 1)) (Frm.tr (Frm.tr (Frm.of_below (Ext.trans HB.out XF.out) _) (F6.out.mono (fun k hk => Or.inl hk))) (Frm.tr (Frm.of_below X7.out _) (F8.out.mono (fun k hk => Or.inr hk)))) (fun k hk h => by rcases h with h | h; exact h; omega)⟩
  exact bodyPost_ret (v := .tuple #[.agg #[.int .i64 br, .int .i64 bn, .int .i64 ar, .int .i64 an, .bool has, .int .i64 vep, .slice A' vns.length c'], .int .i64 0]) (by simp [results, Try.results27, go_sem, hc0, hc1, hc2, hc3, hc4, hc5, hc6]) rfl hE

set_option maxRecDepth 8000 in
set_option maxHeartbeats 16000000 in
theorem learn_ok (a : Nat) (n kep : Int) (kns : List Int) (pr pn ar an : Int) (has : Bool) (vep : Int) (vns : List Int) (ep : Int) (A : Option Addr) (cap : Nat) (l : List Int) (w : World) (H : AAt w a ⟨n, kep, kns, pr, pn, ar, an, has, vep, vns⟩) (hl : l.length ≤ 1000000) (hcap : l.length ≤ cap) (hs : Sl i64 w A l) (hr : learnE ⟨n, kep, kns, pr, pn, ar, an, has, vep, vns⟩ ep l = 0) (hna : ∀ ad, A = some ad → ¬ ad.block = a) :
    Calls Try.prog 28 #[pA a, .agg #[.int .i64 ep, .slice A l.length cap]] w fun e w' => e = .returned (.int .i64 0) ∧ AAt w' a ⟨n, ep, l, 0, 0, 0, 0, false, 0, []⟩ ∧ Frm (oneA a) w w' := by
  refine hide_post fun D hD => ?_
  obtain ⟨w0, hw0⟩ : ∃ w0, w0 = ((w.alloc (.cells #[pA a] 48)).alloc (.cells #[.int .i64 ep, .slice A l.length cap] 26)) := ⟨_, rfl⟩
  have hb0 : Ext w w0 := by rw [hw0]; exact Ext.trans (Ext.trans (Ext.refl _) (ext_al _ _)) (ext_al _ _)
  have hz0 : w0.heap.size = w.heap.size + 2 := by rw [hw0]; simp
  have KgA : Hid (Blk w0 (w.heap.size) 48 #[pA a]) := by show Blk _ _ _ _; rw [hw0]; exact ((Blk.new' _ _ _ _ (by simp)).alloc _)
  have KgC : Hid (Blk w0 (w.heap.size + 1) 26 #[.int .i64 ep, .slice A l.length cap]) := by show Blk _ _ _ _; rw [hw0]; exact (Blk.new' _ _ _ _ (by simp))
  have HW0 : Hid (∀ V, Calls Try.prog 53 #[.func (.func 58) #[] #[.pointer (some ⟨w.heap.size, 0, none⟩), .pointer (some ⟨w.heap.size + 1, 0, none⟩)], .int .i64 1] V fun r w' => ∃ g, r = .returned (.func (.func 87) #[] #[.pointer (some ⟨g, 0, none⟩), .pointer (some ⟨g + 1, 0, none⟩)]) ∧ Blk w' g 28 #[.func (.func 58) #[] #[.pointer (some ⟨w.heap.size, 0, none⟩), .pointer (some ⟨w.heap.size + 1, 0, none⟩)]] ∧ Blk w' (g + 1) 3 #[.int .i64 1] ∧ Ext V w') := fun V => when_any _ _ V ⟨_, _, rfl⟩
  have HW1 : Hid (∀ V, Calls Try.prog 53 #[.func (.func 60) #[] #[.pointer (some ⟨w.heap.size + 1, 0, none⟩), .pointer (some ⟨w.heap.size, 0, none⟩)], .int .i64 7] V fun r w' => ∃ g, r = .returned (.func (.func 87) #[] #[.pointer (some ⟨g, 0, none⟩), .pointer (some ⟨g + 1, 0, none⟩)]) ∧ Blk w' g 28 #[.func (.func 60) #[] #[.pointer (some ⟨w.heap.size + 1, 0, none⟩), .pointer (some ⟨w.heap.size, 0, none⟩)]] ∧ Blk w' (g + 1) 3 #[.int .i64 7] ∧ Ext V w') := fun V => when_any _ _ V ⟨_, _, rfl⟩
  have HL := Lib.hid hl
  have HCAP := Lib.hid hcap
  have HS := Lib.hid hs
  have H0 := Lib.hid H
  have HR := Lib.hid hr
  have HB := Lib.hid hb0
  have HW := Lib.hid hw0
  have hlt := H.lt
  obtain ⟨N, hN⟩ : ∃ N, N = l.length := ⟨_, rfl⟩
  have HN := Lib.hid hN
  have HNA := Lib.hid hna
  have HLT : Hid (a < w.heap.size) := hlt
  clear hb0 hw0 hz0 hl hcap hs H hr hlt hN hna
  unfold pA at *
  go_enter Try.func28, Try.ntmps28
  go_wp2_with (first
    | (go_at_call 53; rw [← HW.out]; (with_reducible refine (HW0.out _).mono ?_); rintro e w1 ⟨u0, rfl, k, k', hx⟩; have K0 := Lib.hid k; have K0' := Lib.hid k'; have X0 : Hid (Ext w0 w1) := hx; clear k k' hx)
    | (go_at_call 53; (with_reducible refine (HW1.out _).mono ?_); rintro e w2 ⟨u1, rfl, k, k', hx⟩; have K1 := Lib.hid k; have K1' := Lib.hid k'; have X1 : Hid (Ext w1 w2) := hx; clear k k' hx)
    | (go_at_call 52; have hq := learn_first (w.heap.size) (w.heap.size + 1) u0 u1 _ a _ ep A cap l (w2.alloc (.cells #[.func (.func 87) #[] #[.pointer (some ⟨u0, 0, none⟩), .pointer (some ⟨u0 + 1, 0, none⟩)], .func (.func 87) #[] #[.pointer (some ⟨u1, 0, none⟩), .pointer (some ⟨u1 + 1, 0, none⟩)]] 95)) (H0.out.stay (Ext.trans HB.out (Ext.trans (Ext.trans (Ext.trans (Ext.refl _) X0.out) X1.out) (ext_al _ (.cells #[.func (.func 87) #[] #[.pointer (some ⟨u0, 0, none⟩), .pointer (some ⟨u0 + 1, 0, none⟩)], .func (.func 87) #[] #[.pointer (some ⟨u1, 0, none⟩), .pointer (some ⟨u1 + 1, 0, none⟩)]] 95))))) HL.out HCAP.out (HS.out.stay (Ext.trans HB.out (Ext.trans (Ext.trans (Ext.trans (Ext.refl _) X0.out) X1.out) (ext_al _ (.cells #[.func (.func 87) #[] #[.pointer (some ⟨u0, 0, none⟩), .pointer (some ⟨u0 + 1, 0, none⟩)], .func (.func 87) #[] #[.pointer (some ⟨u1, 0, none⟩), .pointer (some ⟨u1 + 1, 0, none⟩)]] 95))))) (KgA.out.stay (Ext.trans (Ext.trans (Ext.trans (Ext.refl _) X0.out) X1.out) (ext_al _ (.cells #[.func (.func 87) #[] #[.pointer (some ⟨u0, 0, none⟩), .pointer (some ⟨u0 + 1, 0, none⟩)], .func (.func 87) #[] #[.pointer (some ⟨u1, 0, none⟩), .pointer (some ⟨u1 + 1, 0, none⟩)]] 95)))) (KgC.out.stay (Ext.trans (Ext.trans (Ext.trans (Ext.refl _) X0.out) X1.out) (ext_al _ (.cells #[.func (.func 87) #[] #[.pointer (some ⟨u0, 0, none⟩), .pointer (some ⟨u0 + 1, 0, none⟩)], .func (.func 87) #[] #[.pointer (some ⟨u1, 0, none⟩), .pointer (some ⟨u1 + 1, 0, none⟩)]] 95)))) (K0.out.stay (Ext.trans (Ext.trans (Ext.refl _) X1.out) (ext_al _ (.cells #[.func (.func 87) #[] #[.pointer (some ⟨u0, 0, none⟩), .pointer (some ⟨u0 + 1, 0, none⟩)], .func (.func 87) #[] #[.pointer (some ⟨u1, 0, none⟩), .pointer (some ⟨u1 + 1, 0, none⟩)]] 95)))) (K0'.out.stay (Ext.trans (Ext.trans (Ext.refl _) X1.out) (ext_al _ (.cells #[.func (.func 87) #[] #[.pointer (some ⟨u0, 0, none⟩), .pointer (some ⟨u0 + 1, 0, none⟩)], .func (.func 87) #[] #[.pointer (some ⟨u1, 0, none⟩), .pointer (some ⟨u1 + 1, 0, none⟩)]] 95)))) (K1.out.stay (Ext.trans (Ext.refl _) (ext_al _ (.cells #[.func (.func 87) #[] #[.pointer (some ⟨u0, 0, none⟩), .pointer (some ⟨u0 + 1, 0, none⟩)], .func (.func 87) #[] #[.pointer (some ⟨u1, 0, none⟩), .pointer (some ⟨u1 + 1, 0, none⟩)]] 95)))) (K1'.out.stay (Ext.trans (Ext.refl _) (ext_al _ (.cells #[.func (.func 87) #[] #[.pointer (some ⟨u0, 0, none⟩), .pointer (some ⟨u0 + 1, 0, none⟩)], .func (.func 87) #[] #[.pointer (some ⟨u1, 0, none⟩), .pointer (some ⟨u1 + 1, 0, none⟩)]] 95)))) (Blk.new _ _ _) _ HR.out; (with_reducible refine hq.mono ?_); clear hq; rintro e wf ⟨rfl, hx⟩; have XF : Hid (Ext w0 wf) := Ext.trans (Ext.trans (Ext.trans (Ext.trans (Ext.refl _) X0.out) X1.out) (ext_al _ (.cells #[.func (.func 87) #[] #[.pointer (some ⟨u0, 0, none⟩), .pointer (some ⟨u0 + 1, 0, none⟩)], .func (.func 87) #[] #[.pointer (some ⟨u1, 0, none⟩), .pointer (some ⟨u1 + 1, 0, none⟩)]] 95))) hx; clear hx; have XE := Lib.hid XF.out))
  obtain ⟨kA, kc, vA, vc, kB, hk, hv⟩ := H0.out.stay (Ext.trans HB.out XE.out)
  have HA5 := Lib.hid (H0.out.stay (Ext.trans HB.out XE.out))
  have KB := Lib.hid kB
  have HK := Lib.hid hk
  have HV := Lib.hid hv
  have zgA0 : ∀ V, Frm (oneA a) wf V → V.cell? ⟨w.heap.size, 0, none⟩ = some (.pointer (some ⟨a, 0, none⟩)) := fun V h => ((KgA.out.stay XE.out).frm h (show ¬ (w.heap.size) = a by have := HLT.out; omega)).cell 0
  have zgC0 : ∀ V, Frm (oneA a) wf V → V.cell? ⟨w.heap.size + 1, 0, none⟩ = some (.int .i64 ep) := fun V h => ((KgC.out.stay XE.out).frm h (show ¬ (w.heap.size + 1) = a by have := HLT.out; omega)).cell 0
  have zgC1 : ∀ V, Frm (oneA a) wf V → V.cell? ⟨w.heap.size + 1, 1, none⟩ = some (.slice A l.length cap) := fun V h => ((KgC.out.stay XE.out).frm h (show ¬ (w.heap.size + 1) = a by have := HLT.out; omega)).cell 1
  have HCP : Hid (∀ V, Frm (oneA a) wf V → Calls Try.prog 61 #[.agg #[.int .i64 ep, .slice A l.length cap]] V fun e w' => ∃ A' c', e = .returned (.agg #[.int .i64 ep, .slice A' l.length c']) ∧ In w' A' c' l ∧ Ext V w') := fun V hV => by
    refine (acopied_any ep A cap l V (by have := HL.out; omega) ?_).mono ?_
    · have h5 := HS.out.stay (Ext.trans HB.out XE.out)
      exact sl_frm h5 HNA.out hV
    · rintro e w' ⟨v, he, ho, hx⟩
      obtain ⟨A', c', rfl, hin⟩ := In.own ho
      exact ⟨A', c', he, hin, hx⟩
  have E0 : Hid (Frm (oneA a) wf wf.drew) := (Frm.refl _ _).drew
  clear kB hk hv
  refine rz_begin (oneA a) [] (by kernel_rfl) ?_
  refine rz_take [5, 6, 7, 8, 9, 10] (i := 0) (v := ?_) rfl (by kernel_rfl) (by kernel_rfl) (by kernel_rfl) (by kernel_rfl) (by kernel_rfl) (by kernel_rfl) (fun _ _ _ h => h) (by rfl) ?_ ?_
  rotate_left
  · intro W hW; have hW0 := Frm.tr E0.out hW; clear hW; go_simp <;> with_reducible rfl
  try simp only [Act.put, List.setIfInBounds_toArray, List.set_cons_zero, List.set_cons_succ]
  refine rz_take [8, 9, 10] (i := 1) (v := ?_) rfl (by kernel_rfl) (by kernel_rfl) (by kernel_rfl) (by kernel_rfl) (by kernel_rfl) (by kernel_rfl) (fun _ _ _ h => h) (by rfl) ?_ ?_
  rotate_left
  · intro W hW; have hW0 := Frm.tr E0.out hW; clear hW; go_simp <;> with_reducible rfl
  try simp only [Act.put, List.setIfInBounds_toArray, List.set_cons_zero, List.set_cons_succ]
  refine rz_take [3, 5, 6, 7, 8, 9, 10] (i := 2) (v := ?_) rfl (by kernel_rfl) (by kernel_rfl) (by kernel_rfl) (by kernel_rfl) (by kernel_rfl) (by kernel_rfl) (fun _ _ _ h => h) (by rfl) ?_ ?_
  rotate_left
  · intro W hW; have hW0 := Frm.tr E0.out hW; clear hW; go_simp <;> with_reducible rfl
  try simp only [Act.put, List.setIfInBounds_toArray, List.set_cons_zero, List.set_cons_succ]
  refine rz_take [8, 9, 10] (i := 4) (v := ?_) rfl (by kernel_rfl) (by kernel_rfl) (by kernel_rfl) (by kernel_rfl) (by kernel_rfl) (by kernel_rfl) (fun _ _ _ h => h) (by rfl) ?_ ?_
  rotate_left
  · intro W hW; have hW0 := Frm.tr E0.out hW; clear hW; go_simp <;> with_reducible rfl
  try simp only [Act.put, List.setIfInBounds_toArray, List.set_cons_zero, List.set_cons_succ]
  refine rz_call (i := 3) rfl (by kernel_rfl) (by rfl) (fun K hK => ?_)
  go_simp
  go_at_call 61
  with_reducible refine (HCP.out _ E0.out).mono ?_
  rintro e w1 ⟨A', c', rfl, hin, hx⟩
  refine hK _ _ (Frm.of_below hx _) ?_; clear hK K
  have E1 := Lib.hid (Frm.tr E0.out (Frm.of_below hx _))
  have HIN := Lib.hid hin
  have KB1 := Lib.hid (KB.out.drew.stay hx)
  have HA1 : Hid (AAt w1 a _) := ⟨kA, kc, vA, vc, KB1.out, HK.out.other HA5.out E1.out, HV.out.other HA5.out E1.out⟩
  clear hx hin
  try simp only [Act.put, List.setIfInBounds_toArray, List.set_cons_zero, List.set_cons_succ]
  refine rz_take [6, 7, 8, 9, 10] (i := 5) (v := ?_) rfl (by kernel_rfl) (by kernel_rfl) (by kernel_rfl) (by kernel_rfl) (by kernel_rfl) (by kernel_rfl) (fun _ _ _ h => h) (by rfl) ?_ ?_
  rotate_left
  · intro W hW; have hW0 := Frm.tr E1.out hW; clear hW; go_simp <;> with_reducible rfl
  try simp only [Act.put, List.setIfInBounds_toArray, List.set_cons_zero, List.set_cons_succ]
  refine rz_take [7, 8, 9, 10] (i := 6) (v := ?_) rfl (by kernel_rfl) (by kernel_rfl) (by kernel_rfl) (by kernel_rfl) (by kernel_rfl) (by kernel_rfl) (fun _ _ _ h => h) (by rfl) ?_ ?_
  rotate_left
  · intro W hW; have hW0 := Frm.tr E1.out hW; clear hW; go_simp <;> with_reducible rfl
  try simp only [Act.put, List.setIfInBounds_toArray, List.set_cons_zero, List.set_cons_succ]
  refine rz_call (i := 7) rfl (by kernel_rfl) (by rfl) (fun K hK => ?_)
  have q1 := KB1.out.frozen 1
  have r1 := KB1.out.cell 1
  have q2 := KB1.out.frozen 2
  have r2 := KB1.out.cell 2
  simp [acells] at r1 r2
  go_simp
  refine hK _ _ (Frm.tr (Frm.tr (Frm.refl (oneA a) _) (Frm.of_set _ _ _ rfl)) (Frm.of_set _ _ _ rfl)) ?_; clear hK K q1 r1 q2 r2
  obtain ⟨W2, hW⟩ : ∃ W2, W2 = ((w1.setCell ⟨a, 1, none⟩ (.int .i64 ep)).setCell ⟨a, 2, none⟩ (.slice A' l.length c')) := ⟨_, rfl⟩
  have KW2 : Hid (Blk W2 a 93 #[.int .i64 n, .int .i64 ep, .slice A' l.length c', .int .i64 pr, .int .i64 pn, .int .i64 ar, .int .i64 an, .bool has, .int .i64 vep, .slice vA vns.length vc]) := by (show Blk _ _ _ _); rw [hW]; exact ((KB1.out.set 1 (.int .i64 ep)).set 2 (.slice A' l.length c'))
  have FW2 : Hid (Frm (oneA a) w1 W2) := by (show Frm _ _ _); rw [hW]; exact Frm.tr (Frm.tr (Frm.refl (oneA a) _) (Frm.of_set _ _ _ rfl)) (Frm.of_set _ _ _ rfl)
  have EW2 : Hid (Frm (oneA a) wf W2) := Frm.tr E1.out FW2.out
  try rw [← hW]
  clear hW
  try simp only [Act.put, List.setIfInBounds_toArray, List.set_cons_zero, List.set_cons_succ]
  refine rz_take [9, 10] (i := 8) (v := ?_) rfl (by kernel_rfl) (by kernel_rfl) (by kernel_rfl) (by kernel_rfl) (by kernel_rfl) (by kernel_rfl) (fun _ _ _ h => h) (by rfl) ?_ ?_
  rotate_left
  · intro W hW; have hW0 := Frm.tr EW2.out hW; clear hW; go_simp <;> with_reducible rfl
  try simp only [Act.put, List.setIfInBounds_toArray, List.set_cons_zero, List.set_cons_succ]
  refine rz_take [10] (i := 9) (v := ?_) rfl (by kernel_rfl) (by kernel_rfl) (by kernel_rfl) (by kernel_rfl) (by kernel_rfl) (by kernel_rfl) (fun _ _ _ h => h) (by rfl) ?_ ?_
  rotate_left
  · intro W hW; have hW0 := Frm.tr EW2.out hW; clear hW; go_simp <;> with_reducible rfl
  try simp only [Act.put, List.setIfInBounds_toArray, List.set_cons_zero, List.set_cons_succ]
  refine rz_call (i := 10) rfl (by kernel_rfl) (by rfl) (fun K hK => ?_)
  have q3 := KW2.out.frozen 3
  have r3 := KW2.out.cell 3
  have q4 := KW2.out.frozen 4
  have r4 := KW2.out.cell 4
  have q5 := KW2.out.frozen 5
  have r5 := KW2.out.cell 5
  have q6 := KW2.out.frozen 6
  have r6 := KW2.out.cell 6
  have q7 := KW2.out.frozen 7
  have r7 := KW2.out.cell 7
  have q8 := KW2.out.frozen 8
  have r8 := KW2.out.cell 8
  have q9 := KW2.out.frozen 9
  have r9 := KW2.out.cell 9
  simp [acells] at r3 r4 r5 r6 r7 r8 r9
  go_simp
  refine hK _ _ (Frm.tr (Frm.tr (Frm.tr (Frm.tr (Frm.tr (Frm.tr (Frm.tr (Frm.refl (oneA a) _) (Frm.of_set _ _ _ rfl)) (Frm.of_set _ _ _ rfl)) (Frm.of_set _ _ _ rfl)) (Frm.of_set _ _ _ rfl)) (Frm.of_set _ _ _ rfl)) (Frm.of_set _ _ _ rfl)) (Frm.of_set _ _ _ rfl)) ?_; clear hK K q3 r3 q4 r4 q5 r5 q6 r6 q7 r7 q8 r8 q9 r9
  obtain ⟨W3, hW⟩ : ∃ W3, W3 = (((((((W2.setCell ⟨a, 3, none⟩ (.int .i64 0)).setCell ⟨a, 4, none⟩ (.int .i64 0)).setCell ⟨a, 5, none⟩ (.int .i64 0)).setCell ⟨a, 6, none⟩ (.int .i64 0)).setCell ⟨a, 7, none⟩ (.bool false)).setCell ⟨a, 8, none⟩ (.int .i64 0)).setCell ⟨a, 9, none⟩ (.slice none 0 0)) := ⟨_, rfl⟩
  have KW3 : Hid (Blk W3 a 93 #[.int .i64 n, .int .i64 ep, .slice A' l.length c', .int .i64 0, .int .i64 0, .int .i64 0, .int .i64 0, .bool false, .int .i64 0, .slice none 0 0]) := by (show Blk _ _ _ _); rw [hW]; exact (((((((KW2.out.set 3 (.int .i64 0)).set 4 (.int .i64 0)).set 5 (.int .i64 0)).set 6 (.int .i64 0)).set 7 (.bool false)).set 8 (.int .i64 0)).set 9 (.slice none 0 0))
  have FW3 : Hid (Frm (oneA a) W2 W3) := by (show Frm _ _ _); rw [hW]; exact Frm.tr (Frm.tr (Frm.tr (Frm.tr (Frm.tr (Frm.tr (Frm.tr (Frm.refl (oneA a) _) (Frm.of_set _ _ _ rfl)) (Frm.of_set _ _ _ rfl)) (Frm.of_set _ _ _ rfl)) (Frm.of_set _ _ _ rfl)) (Frm.of_set _ _ _ rfl)) (Frm.of_set _ _ _ rfl)) (Frm.of_set _ _ _ rfl)
  have EW3 : Hid (Frm (oneA a) wf W3) := Frm.tr EW2.out FW3.out
  try rw [← hW]
  clear hW
  try simp only [Act.put, List.setIfInBounds_toArray, List.set_cons_zero, List.set_cons_succ]
  refine rz_done (by kernel_rfl) ?_ _
  go_wp2_with fail
  try go_ret
  exact hD.out _ _ ⟨rfl, ⟨A', c', none, 0, KW3.out, HIN.out.other HA1.out (Frm.tr FW2.out FW3.out), In.nil _⟩, Frm.tr (Frm.of_below (Ext.trans HB.out XE.out) _) EW3.out⟩

set_option maxRecDepth 8000 in
set_option maxHeartbeats 16000000 in
theorem acc_ok (a : Nat) (n kep : Int) (kns : List Int) (pr pn ar an : Int) (has : Bool) (vep : Int) (vns : List Int) (ep br bn : Int) (A : Option Addr) (cap : Nat) (l : List Int) (veto : Bool) (w : World) (H : AAt w a ⟨n, kep, kns, pr, pn, ar, an, has, vep, vns⟩) (hl : l.length ≤ 1000000) (hcap : l.length ≤ cap) (hs : Sl i64 w A l) (hk0 : 0 ≤ kep ∧ kep ≤ 1073741824) (hkl : kns.length ≤ 1000000) (hr : accE ⟨n, kep, kns, pr, pn, ar, an, has, vep, vns⟩ ep l br bn veto = 0) (hna : ∀ ad, A = some ad → ¬ ad.block = a) :
    Calls Try.prog 32 #[pA a, .agg #[.int .i64 ep, .slice A l.length cap], .agg #[.int .i64 br, .int .i64 bn], .bool veto] w fun e w' => e = .returned (.int .i64 0) ∧ AAt w' a ⟨n, kep, kns, br, bn, br, bn, true, ep, l⟩ ∧ Frm (oneA a) w w' := by
  refine hide_post fun D hD => ?_
  obtain ⟨w0, hw0⟩ : ∃ w0, w0 = ((((w.alloc (.cells #[pA a] 48)).alloc (.cells #[.int .i64 ep, .slice A l.length cap] 26)).alloc (.cells #[.int .i64 br, .int .i64 bn] 23)).alloc (.cells #[.bool veto] 4)) := ⟨_, rfl⟩
  have hb0 : Ext w w0 := by rw [hw0]; exact Ext.trans (Ext.trans (Ext.trans (Ext.trans (Ext.refl _) (ext_al _ _)) (ext_al _ _)) (ext_al _ _)) (ext_al _ _)
  have hz0 : w0.heap.size = w.heap.size + 4 := by rw [hw0]; simp
  have KgA : Hid (Blk w0 (w.heap.size) 48 #[pA a]) := by show Blk _ _ _ _; rw [hw0]; exact ((((Blk.new' _ _ _ _ (by simp)).alloc _).alloc _).alloc _)
  have KgC : Hid (Blk w0 (w.heap.size + 1) 26 #[.int .i64 ep, .slice A l.length cap]) := by show Blk _ _ _ _; rw [hw0]; exact (((Blk.new' _ _ _ _ (by simp)).alloc _).alloc _)
  have KgB : Hid (Blk w0 (w.heap.size + 1 + 1) 23 #[.int .i64 br, .int .i64 bn]) := by show Blk _ _ _ _; rw [hw0]; exact ((Blk.new' _ _ _ _ (by simp)).alloc _)
  have KgV : Hid (Blk w0 (w.heap.size + 1 + 1 + 1) 4 #[.bool veto]) := by show Blk _ _ _ _; rw [hw0]; exact (Blk.new' _ _ _ _ (by simp))
  have HW0 : Hid (∀ V, Calls Try.prog 53 #[.func (.func 62) #[] #[.pointer (some ⟨w.heap.size, 0, none⟩), .pointer (some ⟨w.heap.size + 1 + 1, 0, none⟩), .pointer (some ⟨w.heap.size + 1, 0, none⟩)], .int .i64 1] V fun r w' => ∃ g, r = .returned (.func (.func 87) #[] #[.pointer (some ⟨g, 0, none⟩), .pointer (some ⟨g + 1, 0, none⟩)]) ∧ Blk w' g 28 #[.func (.func 62) #[] #[.pointer (some ⟨w.heap.size, 0, none⟩), .pointer (some ⟨w.heap.size + 1 + 1, 0, none⟩), .pointer (some ⟨w.heap.size + 1, 0, none⟩)]] ∧ Blk w' (g + 1) 3 #[.int .i64 1] ∧ Ext V w') := fun V => when_any _ _ V ⟨_, _, rfl⟩
  have HW1 : Hid (∀ V, Calls Try.prog 53 #[.func (.func 63) #[] #[.pointer (some ⟨w.heap.size + 1, 0, none⟩), .pointer (some ⟨w.heap.size, 0, none⟩)], .int .i64 7] V fun r w' => ∃ g, r = .returned (.func (.func 87) #[] #[.pointer (some ⟨g, 0, none⟩), .pointer (some ⟨g + 1, 0, none⟩)]) ∧ Blk w' g 28 #[.func (.func 63) #[] #[.pointer (some ⟨w.heap.size + 1, 0, none⟩), .pointer (some ⟨w.heap.size, 0, none⟩)]] ∧ Blk w' (g + 1) 3 #[.int .i64 7] ∧ Ext V w') := fun V => when_any _ _ V ⟨_, _, rfl⟩
  have HW2 : Hid (∀ V, Calls Try.prog 53 #[.func (.func 64) #[] #[.pointer (some ⟨w.heap.size + 1, 0, none⟩), .pointer (some ⟨w.heap.size, 0, none⟩)], .int .i64 4] V fun r w' => ∃ g, r = .returned (.func (.func 87) #[] #[.pointer (some ⟨g, 0, none⟩), .pointer (some ⟨g + 1, 0, none⟩)]) ∧ Blk w' g 28 #[.func (.func 64) #[] #[.pointer (some ⟨w.heap.size + 1, 0, none⟩), .pointer (some ⟨w.heap.size, 0, none⟩)]] ∧ Blk w' (g + 1) 3 #[.int .i64 4] ∧ Ext V w') := fun V => when_any _ _ V ⟨_, _, rfl⟩
  have HW3 : Hid (∀ V, Calls Try.prog 53 #[.func (.func 65) #[] #[.pointer (some ⟨w.heap.size, 0, none⟩), .pointer (some ⟨w.heap.size + 1, 0, none⟩)], .int .i64 1] V fun r w' => ∃ g, r = .returned (.func (.func 87) #[] #[.pointer (some ⟨g, 0, none⟩), .pointer (some ⟨g + 1, 0, none⟩)]) ∧ Blk w' g 28 #[.func (.func 65) #[] #[.pointer (some ⟨w.heap.size, 0, none⟩), .pointer (some ⟨w.heap.size + 1, 0, none⟩)]] ∧ Blk w' (g + 1) 3 #[.int .i64 1] ∧ Ext V w') := fun V => when_any _ _ V ⟨_, _, rfl⟩
  have HW4 : Hid (∀ V, Calls Try.prog 53 #[.func (.func 67) #[] #[.pointer (some ⟨w.heap.size + 1 + 1, 0, none⟩), .pointer (some ⟨w.heap.size, 0, none⟩)], .int .i64 7] V fun r w' => ∃ g, r = .returned (.func (.func 87) #[] #[.pointer (some ⟨g, 0, none⟩), .pointer (some ⟨g + 1, 0, none⟩)]) ∧ Blk w' g 28 #[.func (.func 67) #[] #[.pointer (some ⟨w.heap.size + 1 + 1, 0, none⟩), .pointer (some ⟨w.heap.size, 0, none⟩)]] ∧ Blk w' (g + 1) 3 #[.int .i64 7] ∧ Ext V w') := fun V => when_any _ _ V ⟨_, _, rfl⟩
  have HW5 : Hid (∀ V, Calls Try.prog 53 #[.func (.func 68) #[] #[.pointer (some ⟨w.heap.size + 1 + 1 + 1, 0, none⟩)], .int .i64 8] V fun r w' => ∃ g, r = .returned (.func (.func 87) #[] #[.pointer (some ⟨g, 0, none⟩), .pointer (some ⟨g + 1, 0, none⟩)]) ∧ Blk w' g 28 #[.func (.func 68) #[] #[.pointer (some ⟨w.heap.size + 1 + 1 + 1, 0, none⟩)]] ∧ Blk w' (g + 1) 3 #[.int .i64 8] ∧ Ext V w') := fun V => when_any _ _ V ⟨_, _, rfl⟩
  have HL := Lib.hid hl
  have HCAP := Lib.hid hcap
  have HS := Lib.hid hs
  have HK0 := Lib.hid hk0
  have HKL := Lib.hid hkl
  have H0 := Lib.hid H
  have HR := Lib.hid hr
  have HB := Lib.hid hb0
  have HW := Lib.hid hw0
  have hlt := H.lt
  obtain ⟨N, hN⟩ : ∃ N, N = l.length := ⟨_, rfl⟩
  have HN := Lib.hid hN
  have HNA := Lib.hid hna
  have HLT : Hid (a < w.heap.size) := hlt
  clear hb0 hw0 hz0 hl hcap hs hk0 hkl H hr hlt hN hna
  unfold pA at *
  go_enter Try.func32, Try.ntmps32
  go_wp2_with (first
    | (go_at_call 53; rw [← HW.out]; (with_reducible refine (HW0.out _).mono ?_); rintro e w1 ⟨u0, rfl, k, k', hx⟩; have K0 := Lib.hid k; have K0' := Lib.hid k'; have X0 : Hid (Ext w0 w1) := hx; clear k k' hx)
    | (go_at_call 53; (with_reducible refine (HW1.out _).mono ?_); rintro e w2 ⟨u1, rfl, k, k', hx⟩; have K1 := Lib.hid k; have K1' := Lib.hid k'; have X1 : Hid (Ext w1 w2) := hx; clear k k' hx)
    | (go_at_call 53; (with_reducible refine (HW2.out _).mono ?_); rintro e w3 ⟨u2, rfl, k, k', hx⟩; have K2 := Lib.hid k; have K2' := Lib.hid k'; have X2 : Hid (Ext w2 w3) := hx; clear k k' hx)
    | (go_at_call 53; (with_reducible refine (HW3.out _).mono ?_); rintro e w4 ⟨u3, rfl, k, k', hx⟩; have K3 := Lib.hid k; have K3' := Lib.hid k'; have X3 : Hid (Ext w3 w4) := hx; clear k k' hx)
    | (go_at_call 53; (with_reducible refine (HW4.out _).mono ?_); rintro e w5 ⟨u4, rfl, k, k', hx⟩; have K4 := Lib.hid k; have K4' := Lib.hid k'; have X4 : Hid (Ext w4 w5) := hx; clear k k' hx)
    | (go_at_call 53; (with_reducible refine (HW5.out _).mono ?_); rintro e w6 ⟨u5, rfl, k, k', hx⟩; have K5 := Lib.hid k; have K5' := Lib.hid k'; have X5 : Hid (Ext w5 w6) := hx; clear k k' hx)
    | (go_at_call 52; have hq := acc_first (w.heap.size) (w.heap.size + 1) (w.heap.size + 1 + 1) (w.heap.size + 1 + 1 + 1) u0 u1 u2 u3 u4 u5 _ a _ ep br bn A cap l veto (w6.alloc (.cells #[.func (.func 87) #[] #[.pointer (some ⟨u0, 0, none⟩), .pointer (some ⟨u0 + 1, 0, none⟩)], .func (.func 87) #[] #[.pointer (some ⟨u1, 0, none⟩), .pointer (some ⟨u1 + 1, 0, none⟩)], .func (.func 87) #[] #[.pointer (some ⟨u2, 0, none⟩), .pointer (some ⟨u2 + 1, 0, none⟩)], .func (.func 87) #[] #[.pointer (some ⟨u3, 0, none⟩), .pointer (some ⟨u3 + 1, 0, none⟩)], .func (.func 87) #[] #[.pointer (some ⟨u4, 0, none⟩), .pointer (some ⟨u4 + 1, 0, none⟩)], .func (.func 87) #[] #[.pointer (some ⟨u5, 0, none⟩), .pointer (some ⟨u5 + 1, 0, none⟩)]] 95)) (H0.out.stay (Ext.trans HB.out (Ext.trans (Ext.trans (Ext.trans (Ext.trans (Ext.trans (Ext.trans (Ext.trans (Ext.refl _) X0.out) X1.out) X2.out) X3.out) X4.out) X5.out) (ext_al _ (.cells #[.func (.func 87) #[] #[.pointer (some ⟨u0, 0, none⟩), .pointer (some ⟨u0 + 1, 0, none⟩)], .func (.func 87) #[] #[.pointer (some ⟨u1, 0, none⟩), .pointer (some ⟨u1 + 1, 0, none⟩)], .func (.func 87) #[] #[.pointer (some ⟨u2, 0, none⟩), .pointer (some ⟨u2 + 1, 0, none⟩)], .func (.func 87) #[] #[.pointer (some ⟨u3, 0, none⟩), .pointer (some ⟨u3 + 1, 0, none⟩)], .func (.func 87) #[] #[.pointer (some ⟨u4, 0, none⟩), .pointer (some ⟨u4 + 1, 0, none⟩)], .func (.func 87) #[] #[.pointer (some ⟨u5, 0, none⟩), .pointer (some ⟨u5 + 1, 0, none⟩)]] 95))))) HL.out HCAP.out (HS.out.stay (Ext.trans HB.out (Ext.trans (Ext.trans (Ext.trans (Ext.trans (Ext.trans (Ext.trans (Ext.trans (Ext.refl _) X0.out) X1.out) X2.out) X3.out) X4.out) X5.out) (ext_al _ (.cells #[.func (.func 87) #[] #[.pointer (some ⟨u0, 0, none⟩), .pointer (some ⟨u0 + 1, 0, none⟩)], .func (.func 87) #[] #[.pointer (some ⟨u1, 0, none⟩), .pointer (some ⟨u1 + 1, 0, none⟩)], .func (.func 87) #[] #[.pointer (some ⟨u2, 0, none⟩), .pointer (some ⟨u2 + 1, 0, none⟩)], .func (.func 87) #[] #[.pointer (some ⟨u3, 0, none⟩), .pointer (some ⟨u3 + 1, 0, none⟩)], .func (.func 87) #[] #[.pointer (some ⟨u4, 0, none⟩), .pointer (some ⟨u4 + 1, 0, none⟩)], .func (.func 87) #[] #[.pointer (some ⟨u5, 0, none⟩), .pointer (some ⟨u5 + 1, 0, none⟩)]] 95))))) HK0.out HKL.out (KgA.out.stay (Ext.trans (Ext.trans (Ext.trans (Ext.trans (Ext.trans (Ext.trans (Ext.trans (Ext.refl _) X0.out) X1.out) X2.out) X3.out) X4.out) X5.out) (ext_al _ (.cells #[.func (.func 87) #[] #[.pointer (some ⟨u0, 0, none⟩), .pointer (some ⟨u0 + 1, 0, none⟩)], .func (.func 87) #[] #[.pointer (some ⟨u1, 0, none⟩), .pointer (some ⟨u1 + 1, 0, none⟩)], .func (.func 87) #[] #[.pointer (some ⟨u2, 0, none⟩), .pointer (some ⟨u2 + 1, 0, none⟩)], .func (.func 87) #[] #[.pointer (some ⟨u3, 0, none⟩), .pointer (some ⟨u3 + 1, 0, none⟩)], .func (.func 87) #[] #[.pointer (some ⟨u4, 0, none⟩), .pointer (some ⟨u4 + 1, 0, none⟩)], .func (.func 87) #[] #[.pointer (some ⟨u5, 0, none⟩), .pointer (some ⟨u5 + 1, 0, none⟩)]] 95)))) (KgC.out.stay (Ext.trans (Ext.trans (Ext.trans (Ext.trans (Ext.trans (Ext.trans (Ext.trans (Ext.refl _) X0.out) X1.out) X2.out) X3.out) X4.out) X5.out) (ext_al _ (.cells #[.func (.func 87) #[] #[.pointer (some ⟨u0, 0, none⟩), .pointer (some ⟨u0 + 1, 0, none⟩)], .func (.func 87) #[] #[.pointer (some ⟨u1, 0, none⟩), .pointer (some ⟨u1 + 1, 0, none⟩)], .func (.func 87) #[] #[.pointer (some ⟨u2, 0, none⟩), .pointer (some ⟨u2 + 1, 0, none⟩)], .func (.func 87) #[] #[.pointer (some ⟨u3, 0, none⟩), .pointer (some ⟨u3 + 1, 0, none⟩)], .func (.func 87) #[] #[.pointer (some ⟨u4, 0, none⟩), .pointer (some ⟨u4 + 1, 0, none⟩)], .func (.func 87) #[] #[.pointer (some ⟨u5, 0, none⟩), .pointer (some ⟨u5 + 1, 0, none⟩)]] 95)))) (KgB.out.stay (Ext.trans (Ext.trans (Ext.trans (Ext.trans (Ext.trans (Ext.trans (Ext.trans (Ext.refl _) X0.out) X1.out) X2.out) X3.out) X4.out) X5.out) (ext_al _ (.cells #[.func (.func 87) #[] #[.pointer (some ⟨u0, 0, none⟩), .pointer (some ⟨u0 + 1, 0, none⟩)], .func (.func 87) #[] #[.pointer (some ⟨u1, 0, none⟩), .pointer (some ⟨u1 + 1, 0, none⟩)], .func (.func 87) #[] #[.pointer (some ⟨u2, 0, none⟩), .pointer (some ⟨u2 + 1, 0, none⟩)], .func (.func 87) #[] #[.pointer (some ⟨u3, 0, none⟩), .pointer (some ⟨u3 + 1, 0, none⟩)], .func (.func 87) #[] #[.pointer (some ⟨u4, 0, none⟩), .pointer (some ⟨u4 + 1, 0, none⟩)], .func (.func 87) #[] #[.pointer (some ⟨u5, 0, none⟩), .pointer (some ⟨u5 + 1, 0, none⟩)]] 95)))) (KgV.out.stay (Ext.trans (Ext.trans (Ext.trans (Ext.trans (Ext.trans (Ext.trans (Ext.trans (Ext.refl _) X0.out) X1.out) X2.out) X3.out) X4.out) X5.out) (ext_al _ (.cells #[.func (.func 87) #[] #[.pointer (some ⟨u0, 0, none⟩), .pointer (some ⟨u0 + 1, 0, none⟩)], .func (.func 87) #[] #[.pointer (some ⟨u1, 0, none⟩), .pointer (some ⟨u1 + 1, 0, none⟩)], .func (.func 87) #[] #[.pointer (some ⟨u2, 0, none⟩), .pointer (some ⟨u2 + 1, 0, none⟩)], .func (.func 87) #[] #[.pointer (some ⟨u3, 0, none⟩), .pointer (some ⟨u3 + 1, 0, none⟩)], .func (.func 87) #[] #[.pointer (some ⟨u4, 0, none⟩), .pointer (some ⟨u4 + 1, 0, none⟩)], .func (.func 87) #[] #[.pointer (some ⟨u5, 0, none⟩), .pointer (some ⟨u5 + 1, 0, none⟩)]] 95)))) (K0.out.stay (Ext.trans (Ext.trans (Ext.trans (Ext.trans (Ext.trans (Ext.trans (Ext.refl _) X1.out) X2.out) X3.out) X4.out) X5.out) (ext_al _ (.cells #[.func (.func 87) #[] #[.pointer (some ⟨u0, 0, none⟩), .pointer (some ⟨u0 + 1, 0, none⟩)], .func (.func 87) #[] #[.pointer (some ⟨u1, 0, none⟩), .pointer (some ⟨u1 + 1, 0, none⟩)], .func (.func 87) #[] #[.pointer (some ⟨u2, 0, none⟩), .pointer (some ⟨u2 + 1, 0, none⟩)], .func (.func 87) #[] #[.pointer (some ⟨u3, 0, none⟩), .pointer (some ⟨u3 + 1, 0, none⟩)], .func (.func 87) #[] #[.pointer (some ⟨u4, 0, none⟩), .pointer (some ⟨u4 + 1, 0, none⟩)], .func (.func 87) #[] #[.pointer (some ⟨u5, 0, none⟩), .pointer (some ⟨u5 + 1, 0, none⟩)]] 95)))) (K0'.out.stay (Ext.trans (Ext.trans (Ext.trans (Ext.trans (Ext.trans (Ext.trans (Ext.refl _) X1.out) X2.out) X3.out) X4.out) X5.out) (ext_al _ (.cells #[.func (.func 87) #[] #[.pointer (some ⟨u0, 0, none⟩), .pointer (some ⟨u0 + 1, 0, none⟩)], .func (.func 87) #[] #[.pointer (some ⟨u1, 0, none⟩), .pointer (some ⟨u1 + 1, 0, none⟩)], .func (.func 87) #[] #[.pointer (some ⟨u2, 0, none⟩), .pointer (some ⟨u2 + 1, 0, none⟩)], .func (.func 87) #[] #[.pointer (some ⟨u3, 0, none⟩), .pointer (some ⟨u3 + 1, 0, none⟩)], .func (.func 87) #[] #[.pointer (some ⟨u4, 0, none⟩), .pointer (some ⟨u4 + 1, 0, none⟩)], .func (.func 87) #[] #[.pointer (some ⟨u5, 0, none⟩), .pointer (some ⟨u5 + 1, 0, none⟩)]] 95)))) (K1.out.stay (Ext.trans (Ext.trans (Ext.trans (Ext.trans (Ext.trans (Ext.refl _) X2.out) X3.out) X4.out) X5.out) (ext_al _ (.cells #[.func (.func 87) #[] #[.pointer (some ⟨u0, 0, none⟩), .pointer (some ⟨u0 + 1, 0, none⟩)], .func (.func 87) #[] #[.pointer (some ⟨u1, 0, none⟩), .pointer (some ⟨u1 + 1, 0, none⟩)], .func (.func 87) #[] #[.pointer (some ⟨u2, 0, none⟩), .pointer (some ⟨u2 + 1, 0, none⟩)], .func (.func 87) #[] #[.pointer (some ⟨u3, 0, none⟩), .pointer (some ⟨u3 + 1, 0, none⟩)], .func (.func 87) #[] #[.pointer (some ⟨u4, 0, none⟩), .pointer (some ⟨u4 + 1, 0, none⟩)], .func (.func 87) #[] #[.pointer (some ⟨u5, 0, none⟩), .pointer (some ⟨u5 + 1, 0, none⟩)]] 95)))) (K1'.out.stay (Ext.trans (Ext.trans (Ext.trans (Ext.trans (Ext.trans (Ext.refl _) X2.out) X3.out) X4.out) X5.out) (ext_al _ (.cells #[.func (.func 87) #[] #[.pointer (some ⟨u0, 0, none⟩), .pointer (some ⟨u0 + 1, 0, none⟩)], .func (.func 87) #[] #[.pointer (some ⟨u1, 0, none⟩), .pointer (some ⟨u1 + 1, 0, none⟩)], .func (.func 87) #[] #[.pointer (some ⟨u2, 0, none⟩), .pointer (some ⟨u2 + 1, 0, none⟩)], .func (.func 87) #[] #[.pointer (some ⟨u3, 0, none⟩), .pointer (some ⟨u3 + 1, 0, none⟩)], .func (.func 87) #[] #[.pointer (some ⟨u4, 0, none⟩), .pointer (some ⟨u4 + 1, 0, none⟩)], .func (.func 87) #[] #[.pointer (some ⟨u5, 0, none⟩), .pointer (some ⟨u5 + 1, 0, none⟩)]] 95)))) (K2.out.stay (Ext.trans (Ext.trans (Ext.trans (Ext.trans (Ext.refl _) X3.out) X4.out) X5.out) (ext_al _ (.cells #[.func (.func 87) #[] #[.pointer (some ⟨u0, 0, none⟩), .pointer (some ⟨u0 + 1, 0, none⟩)], .func (.func 87) #[] #[.pointer (some ⟨u1, 0, none⟩), .pointer (some ⟨u1 + 1, 0, none⟩)], .func (.func 87) #[] #[.pointer (some ⟨u2, 0, none⟩), .pointer (some ⟨u2 + 1, 0, none⟩)], .func (.func 87) #[] #[.pointer (some ⟨u3, 0, none⟩), .pointer (some ⟨u3 + 1, 0, none⟩)], .func (.func 87) #[] #[.pointer (some ⟨u4, 0, none⟩), .pointer (some ⟨u4 + 1, 0, none⟩)], .func (.func 87) #[] #[.pointer (some ⟨u5, 0, none⟩), .pointer (some ⟨u5 + 1, 0, none⟩)]] 95)))) (K2'.out.stay (Ext.trans (Ext.trans (Ext.trans (Ext.trans (Ext.refl _) X3.out) X4.out) X5.out) (ext_al _ (.cells #[.func (.func 87) #[] #[.pointer (some ⟨u0, 0, none⟩), .pointer (some ⟨u0 + 1, 0, none⟩)], .func (.func 87) #[] #[.pointer (some ⟨u1, 0, none⟩), .pointer (some ⟨u1 + 1, 0, none⟩)], .func (.func 87) #[] #[.pointer (some ⟨u2, 0, none⟩), .pointer (some ⟨u2 + 1, 0, none⟩)], .func (.func 87) #[] #[.pointer (some ⟨u3, 0, none⟩), .pointer (some ⟨u3 + 1, 0, none⟩)], .func (.func 87) #[] #[.pointer (some ⟨u4, 0, none⟩), .pointer (some ⟨u4 + 1, 0, none⟩)], .func (.func 87) #[] #[.pointer (some ⟨u5, 0, none⟩), .pointer (some ⟨u5 + 1, 0, none⟩)]] 95)))) (K3.out.stay (Ext.trans (Ext.trans (Ext.trans (Ext.refl _) X4.out) X5.out) (ext_al _ (.cells #[.func (.func 87) #[] #[.pointer (some ⟨u0, 0, none⟩), .pointer (some ⟨u0 + 1, 0, none⟩)], .func (.func 87) #[] #[.pointer (some ⟨u1, 0, none⟩), .pointer (some ⟨u1 + 1, 0, none⟩)], .func (.func 87) #[] #[.pointer (some ⟨u2, 0, none⟩), .pointer (some ⟨u2 + 1, 0, none⟩)], .func (.func 87) #[] #[.pointer (some ⟨u3, 0, none⟩), .pointer (some ⟨u3 + 1, 0, none⟩)], .func (.func 87) #[] #[.pointer (some ⟨u4, 0, none⟩), .pointer (some ⟨u4 + 1, 0, none⟩)], .func (.func 87) #[] #[.pointer (some ⟨u5, 0, none⟩), .pointer (some ⟨u5 + 1, 0, none⟩)]] 95)))) (K3'.out.stay (Ext.trans (Ext.trans (Ext.trans (Ext.refl _) X4.out) X5.out) (ext_al _ (.cells #[.func (.func 87) #[] #[.pointer (some ⟨u0, 0, none⟩), .pointer (some ⟨u0 + 1, 0, none⟩)], .func (.func 87) #[] #[.pointer (some ⟨u1, 0, none⟩), .pointer (some ⟨u1 + 1, 0, none⟩)], .func (.func 87) #[] #[.pointer (some ⟨u2, 0, none⟩), .pointer (some ⟨u2 + 1, 0, none⟩)], .func (.func 87) #[] #[.pointer (some ⟨u3, 0, none⟩), .pointer (some ⟨u3 + 1, 0, none⟩)], .func (.func 87) #[] #[.pointer (some ⟨u4, 0, none⟩), .pointer (some ⟨u4 + 1, 0, none⟩)], .func (.func 87) #[] #[.pointer (some ⟨u5, 0, none⟩), .pointer (some ⟨u5 + 1, 0, none⟩)]] 95)))) (K4.out.stay (Ext.trans (Ext.trans (Ext.refl _) X5.out) (ext_al _ (.cells #[.func (.func 87) #[] #[.pointer (some ⟨u0, 0, none⟩), .pointer (some ⟨u0 + 1, 0, none⟩)], .func (.func 87) #[] #[.pointer (some ⟨u1, 0, none⟩), .pointer (some ⟨u1 + 1, 0, none⟩)], .func (.func 87) #[] #[.pointer (some ⟨u2, 0, none⟩), .pointer (some ⟨u2 + 1, 0, none⟩)], .func (.func 87) #[] #[.pointer (some ⟨u3, 0, none⟩), .pointer (some ⟨u3 + 1, 0, none⟩)], .func (.func 87) #[] #[.pointer (some ⟨u4, 0, none⟩), .pointer (some ⟨u4 + 1, 0, none⟩)], .func (.func 87) #[] #[.pointer (some ⟨u5, 0, none⟩), .pointer (some ⟨u5 + 1, 0, none⟩)]] 95)))) (K4'.out.stay (Ext.trans (Ext.trans (Ext.refl _) X5.out) (ext_al _ (.cells #[.func (.func 87) #[] #[.pointer (some ⟨u0, 0, none⟩), .pointer (some ⟨u0 + 1, 0, none⟩)], .func (.func 87) #[] #[.pointer (some ⟨u1, 0, none⟩), .pointer (some ⟨u1 + 1, 0, none⟩)], .func (.func 87) #[] #[.pointer (some ⟨u2, 0, none⟩), .pointer (some ⟨u2 + 1, 0, none⟩)], .func (.func 87) #[] #[.pointer (some ⟨u3, 0, none⟩), .pointer (some ⟨u3 + 1, 0, none⟩)], .func (.func 87) #[] #[.pointer (some ⟨u4, 0, none⟩), .pointer (some ⟨u4 + 1, 0, none⟩)], .func (.func 87) #[] #[.pointer (some ⟨u5, 0, none⟩), .pointer (some ⟨u5 + 1, 0, none⟩)]] 95)))) (K5.out.stay (Ext.trans (Ext.refl _) (ext_al _ (.cells #[.func (.func 87) #[] #[.pointer (some ⟨u0, 0, none⟩), .pointer (some ⟨u0 + 1, 0, none⟩)], .func (.func 87) #[] #[.pointer (some ⟨u1, 0, none⟩), .pointer (some ⟨u1 + 1, 0, none⟩)], .func (.func 87) #[] #[.pointer (some ⟨u2, 0, none⟩), .pointer (some ⟨u2 + 1, 0, none⟩)], .func (.func 87) #[] #[.pointer (some ⟨u3, 0, none⟩), .pointer (some ⟨u3 + 1, 0, none⟩)], .func (.func 87) #[] #[.pointer (some ⟨u4, 0, none⟩), .pointer (some ⟨u4 + 1, 0, none⟩)], .func (.func 87) #[] #[.pointer (some ⟨u5, 0, none⟩), .pointer (some ⟨u5 + 1, 0, none⟩)]] 95)))) (K5'.out.stay (Ext.trans (Ext.refl _) (ext_al _ (.cells #[.func (.func 87) #[] #[.pointer (some ⟨u0, 0, none⟩), .pointer (some ⟨u0 + 1, 0, none⟩)], .func (.func 87) #[] #[.pointer (some ⟨u1, 0, none⟩), .pointer (some ⟨u1 + 1, 0, none⟩)], .func (.func 87) #[] #[.pointer (some ⟨u2, 0, none⟩), .pointer (some ⟨u2 + 1, 0, none⟩)], .func (.func 87) #[] #[.pointer (some ⟨u3, 0, none⟩), .pointer (some ⟨u3 + 1, 0, none⟩)], .func (.func 87) #[] #[.pointer (some ⟨u4, 0, none⟩), .pointer (some ⟨u4 + 1, 0, none⟩)], .func (.func 87) #[] #[.pointer (some ⟨u5, 0, none⟩), .pointer (some ⟨u5 + 1, 0, none⟩)]] 95)))) (Blk.new _ _ _) _ HR.out; (with_reducible refine hq.mono ?_); clear hq; rintro e wf ⟨rfl, hx⟩; have XF : Hid (Ext w0 wf) := Ext.trans (Ext.trans (Ext.trans (Ext.trans (Ext.trans (Ext.trans (Ext.trans (Ext.trans (Ext.refl _) X0.out) X1.out) X2.out) X3.out) X4.out) X5.out) (ext_al _ (.cells #[.func (.func 87) #[] #[.pointer (some ⟨u0, 0, none⟩), .pointer (some ⟨u0 + 1, 0, none⟩)], .func (.func 87) #[] #[.pointer (some ⟨u1, 0, none⟩), .pointer (some ⟨u1 + 1, 0, none⟩)], .func (.func 87) #[] #[.pointer (some ⟨u2, 0, none⟩), .pointer (some ⟨u2 + 1, 0, none⟩)], .func (.func 87) #[] #[.pointer (some ⟨u3, 0, none⟩), .pointer (some ⟨u3 + 1, 0, none⟩)], .func (.func 87) #[] #[.pointer (some ⟨u4, 0, none⟩), .pointer (some ⟨u4 + 1, 0, none⟩)], .func (.func 87) #[] #[.pointer (some ⟨u5, 0, none⟩), .pointer (some ⟨u5 + 1, 0, none⟩)]] 95))) hx; clear hx; have XE := Lib.hid XF.out))
  obtain ⟨kA, kc, vA, vc, kB, hk, hv⟩ := H0.out.stay (Ext.trans HB.out XE.out)
  have HA5 := Lib.hid (H0.out.stay (Ext.trans HB.out XE.out))
  have KB := Lib.hid kB
  have HK := Lib.hid hk
  have HV := Lib.hid hv
  have zgA0 : ∀ V, Frm (oneA a) wf V → V.cell? ⟨w.heap.size, 0, none⟩ = some (.pointer (some ⟨a, 0, none⟩)) := fun V h => ((KgA.out.stay XE.out).frm h (show ¬ (w.heap.size) = a by have := HLT.out; omega)).cell 0
  have zgC0 : ∀ V, Frm (oneA a) wf V → V.cell? ⟨w.heap.size + 1, 0, none⟩ = some (.int .i64 ep) := fun V h => ((KgC.out.stay XE.out).frm h (show ¬ (w.heap.size + 1) = a by have := HLT.out; omega)).cell 0
  have zgC1 : ∀ V, Frm (oneA a) wf V → V.cell? ⟨w.heap.size + 1, 1, none⟩ = some (.slice A l.length cap) := fun V h => ((KgC.out.stay XE.out).frm h (show ¬ (w.heap.size + 1) = a by have := HLT.out; omega)).cell 1
  have zgB0 : ∀ V, Frm (oneA a) wf V → V.cell? ⟨w.heap.size + 1 + 1, 0, none⟩ = some (.int .i64 br) := fun V h => ((KgB.out.stay XE.out).frm h (show ¬ (w.heap.size + 1 + 1) = a by have := HLT.out; omega)).cell 0
  have zgB1 : ∀ V, Frm (oneA a) wf V → V.cell? ⟨w.heap.size + 1 + 1, 1, none⟩ = some (.int .i64 bn) := fun V h => ((KgB.out.stay XE.out).frm h (show ¬ (w.heap.size + 1 + 1) = a by have := HLT.out; omega)).cell 1
  have zgV0 : ∀ V, Frm (oneA a) wf V → V.cell? ⟨w.heap.size + 1 + 1 + 1, 0, none⟩ = some (.bool veto) := fun V h => ((KgV.out.stay XE.out).frm h (show ¬ (w.heap.size + 1 + 1 + 1) = a by have := HLT.out; omega)).cell 0
  have HCP : Hid (∀ V, Frm (oneA a) wf V → Calls Try.prog 61 #[.agg #[.int .i64 ep, .slice A l.length cap]] V fun e w' => ∃ A' c', e = .returned (.agg #[.int .i64 ep, .slice A' l.length c']) ∧ In w' A' c' l ∧ Ext V w') := fun V hV => by
    refine (acopied_any ep A cap l V (by have := HL.out; omega) ?_).mono ?_
    · have h5 := HS.out.stay (Ext.trans HB.out XE.out)
      exact sl_frm h5 HNA.out hV
    · rintro e w' ⟨v, he, ho, hx⟩
      obtain ⟨A', c', rfl, hin⟩ := In.own ho
      exact ⟨A', c', he, hin, hx⟩
  have E0 : Hid (Frm (oneA a) wf wf.drew) := (Frm.refl _ _).drew
  clear kB hk hv
  refine rz_begin (oneA a) [] (by kernel_rfl) ?_
  refine rz_take [6, 7, 8] (i := 0) (v := ?_) rfl (by kernel_rfl) (by kernel_rfl) (by kernel_rfl) (by kernel_rfl) (by kernel_rfl) (by kernel_rfl) (fun _ _ _ h => h) (by rfl) ?_ ?_
  rotate_left
  · intro W hW; have hW0 := Frm.tr E0.out hW; clear hW; go_simp <;> with_reducible rfl
  try simp only [Act.put, List.setIfInBounds_toArray, List.set_cons_zero, List.set_cons_succ]
  refine rz_take [5, 6, 7, 8] (i := 1) (v := ?_) rfl (by kernel_rfl) (by kernel_rfl) (by kernel_rfl) (by kernel_rfl) (by kernel_rfl) (by kernel_rfl) (fun _ _ _ h => h) (by rfl) ?_ ?_
  rotate_left
  · intro W hW; have hW0 := Frm.tr E0.out hW; clear hW; go_simp <;> with_reducible rfl
  try simp only [Act.put, List.setIfInBounds_toArray, List.set_cons_zero, List.set_cons_succ]
  refine rz_take [5, 6, 7, 8] (i := 2) (v := ?_) rfl (by kernel_rfl) (by kernel_rfl) (by kernel_rfl) (by kernel_rfl) (by kernel_rfl) (by kernel_rfl) (fun _ _ _ h => h) (by rfl) ?_ ?_
  rotate_left
  · intro W hW; have hW0 := Frm.tr E0.out hW; clear hW; go_simp <;> with_reducible rfl
  try simp only [Act.put, List.setIfInBounds_toArray, List.set_cons_zero, List.set_cons_succ]
  refine rz_take [4, 5, 6, 7, 8] (i := 3) (v := ?_) rfl (by kernel_rfl) (by kernel_rfl) (by kernel_rfl) (by kernel_rfl) (by kernel_rfl) (by kernel_rfl) (fun _ _ _ h => h) (by rfl) ?_ ?_
  rotate_left
  · intro W hW; have hW0 := Frm.tr E0.out hW; clear hW; go_simp <;> with_reducible rfl
  try simp only [Act.put, List.setIfInBounds_toArray, List.set_cons_zero, List.set_cons_succ]
  refine rz_call (i := 4) rfl (by kernel_rfl) (by rfl) (fun K hK => ?_)
  go_simp
  go_at_call 61
  with_reducible refine (HCP.out _ E0.out).mono ?_
  rintro e w1 ⟨A', c', rfl, hin, hx⟩
  refine hK _ _ (Frm.of_below hx _) ?_; clear hK K
  have E1 := Lib.hid (Frm.tr E0.out (Frm.of_below hx _))
  have HIN := Lib.hid hin
  have KB1 := Lib.hid (KB.out.drew.stay hx)
  have HA1 : Hid (AAt w1 a _) := ⟨kA, kc, vA, vc, KB1.out, HK.out.other HA5.out E1.out, HV.out.other HA5.out E1.out⟩
  clear hx hin
  try simp only [Act.put, List.setIfInBounds_toArray, List.set_cons_zero, List.set_cons_succ]
  refine rz_take [6, 7, 8] (i := 5) (v := ?_) rfl (by kernel_rfl) (by kernel_rfl) (by kernel_rfl) (by kernel_rfl) (by kernel_rfl) (by kernel_rfl) (fun _ _ _ h => h) (by rfl) ?_ ?_
  rotate_left
  · intro W hW; have hW0 := Frm.tr E1.out hW; clear hW; go_simp <;> with_reducible rfl
  try simp only [Act.put, List.setIfInBounds_toArray, List.set_cons_zero, List.set_cons_succ]
  refine rz_take [7, 8] (i := 6) (v := ?_) rfl (by kernel_rfl) (by kernel_rfl) (by kernel_rfl) (by kernel_rfl) (by kernel_rfl) (by kernel_rfl) (fun _ _ _ h => h) (by rfl) ?_ ?_
  rotate_left
  · intro W hW; have hW0 := Frm.tr E1.out hW; clear hW; go_simp <;> with_reducible rfl
  try simp only [Act.put, List.setIfInBounds_toArray, List.set_cons_zero, List.set_cons_succ]
  refine rz_take [8] (i := 7) (v := ?_) rfl (by kernel_rfl) (by kernel_rfl) (by kernel_rfl) (by kernel_rfl) (by kernel_rfl) (by kernel_rfl) (fun _ _ _ h => h) (by rfl) ?_ ?_
  rotate_left
  · intro W hW; have hW0 := Frm.tr E1.out hW; clear hW; go_simp <;> with_reducible rfl
  try simp only [Act.put, List.setIfInBounds_toArray, List.set_cons_zero, List.set_cons_succ]
  refine rz_call (i := 8) rfl (by kernel_rfl) (by rfl) (fun K hK => ?_)
  have q3 := KB1.out.frozen 3
  have r3 := KB1.out.cell 3
  have q4 := KB1.out.frozen 4
  have r4 := KB1.out.cell 4
  have q5 := KB1.out.frozen 5
  have r5 := KB1.out.cell 5
  have q6 := KB1.out.frozen 6
  have r6 := KB1.out.cell 6
  have q7 := KB1.out.frozen 7
  have r7 := KB1.out.cell 7
  have q8 := KB1.out.frozen 8
  have r8 := KB1.out.cell 8
  have q9 := KB1.out.frozen 9
  have r9 := KB1.out.cell 9
  simp [acells] at r3 r4 r5 r6 r7 r8 r9
  go_simp
  refine hK _ _ (Frm.tr (Frm.tr (Frm.tr (Frm.tr (Frm.tr (Frm.tr (Frm.tr (Frm.refl (oneA a) _) (Frm.of_set _ _ _ rfl)) (Frm.of_set _ _ _ rfl)) (Frm.of_set _ _ _ rfl)) (Frm.of_set _ _ _ rfl)) (Frm.of_set _ _ _ rfl)) (Frm.of_set _ _ _ rfl)) (Frm.of_set _ _ _ rfl)) ?_; clear hK K q3 r3 q4 r4 q5 r5 q6 r6 q7 r7 q8 r8 q9 r9
  obtain ⟨W2, hW⟩ : ∃ W2, W2 = (((((((w1.setCell ⟨a, 3, none⟩ (.int .i64 br)).setCell ⟨a, 4, none⟩ (.int .i64 bn)).setCell ⟨a, 5, none⟩ (.int .i64 br)).setCell ⟨a, 6, none⟩ (.int .i64 bn)).setCell ⟨a, 7, none⟩ (.bool true)).setCell ⟨a, 8, none⟩ (.int .i64 ep)).setCell ⟨a, 9, none⟩ (.slice A' l.length c')) := ⟨_, rfl⟩
  have KW2 : Hid (Blk W2 a 93 #[.int .i64 n, .int .i64 kep, .slice kA kns.length kc, .int .i64 br, .int .i64 bn, .int .i64 br, .int .i64 bn, .bool true, .int .i64 ep, .slice A' l.length c']) := by (show Blk _ _ _ _); rw [hW]; exact (((((((KB1.out.set 3 (.int .i64 br)).set 4 (.int .i64 bn)).set 5 (.int .i64 br)).set 6 (.int .i64 bn)).set 7 (.bool true)).set 8 (.int .i64 ep)).set 9 (.slice A' l.length c'))
  have FW2 : Hid (Frm (oneA a) w1 W2) := by (show Frm _ _ _); rw [hW]; exact Frm.tr (Frm.tr (Frm.tr (Frm.tr (Frm.tr (Frm.tr (Frm.tr (Frm.refl (oneA a) _) (Frm.of_set _ _ _ rfl)) (Frm.of_set _ _ _ rfl)) (Frm.of_set _ _ _ rfl)) (Frm.of_set _ _ _ rfl)) (Frm.of_set _ _ _ rfl)) (Frm.of_set _ _ _ rfl)) (Frm.of_set _ _ _ rfl)
  have EW2 : Hid (Frm (oneA a) wf W2) := Frm.tr E1.out FW2.out
  try rw [← hW]
  clear hW
  try simp only [Act.put, List.setIfInBounds_toArray, List.set_cons_zero, List.set_cons_succ]
  refine rz_done (by kernel_rfl) ?_ _
  go_wp2_with fail
  try go_ret
  exact hD.out _ _ ⟨rfl, ⟨kA, kc, A', c', KW2.out, HK.out.other HA5.out EW2.out, HIN.out.other HA1.out FW2.out⟩, Frm.tr (Frm.of_below (Ext.trans HB.out XE.out) _) EW2.out⟩


end Go.Proofs.Ytkdcbidbciognaa
